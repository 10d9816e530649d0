/- The law FeedMade over the walk. Condition: the library's table of powers of ten. -/
import Derived.Test.YtjonkbdldebkiaaGreatDoorVWpJ
import Derived.Test.YtjonkbdldebkiaaGreatDoorVWpF
import Derived.Test.YtjonkbdldebkiaaGreatDoorVWfD
set_option linter.unusedVariables false
set_option linter.unusedSimpArgs false
set_option maxHeartbeats 8000000
set_option maxRecDepth 100000
namespace Go.Proofs.YtjonkbdldebkiaaGreatDoor
open Go.Proofs.Tryz Go.RowKit
def j8f (s:List UInt8):Prop:=s=[]∨∃ a b:UInt8,s.head? = some a∧s.getLast? = some b∧Fd.z2s a=false∧Fd.z2s b=false
theorem q6d {x:Fd.En} (h:Fd.z03 x=0):x.id.length≤60∧x.ti.length≤3000∧x.li.length≤3000∧x.ht.length≤3000∧0≤x.at_∧x.at_≤4102444799:=by
 have ht:=Fd.q4h h;unfold Fd.z03 at h
 split at h
 ·cases h
 split at h
 ·cases h
 ·rename_i q
  exact⟨by omega,by omega,by omega,by omega,ht⟩
theorem q6x (x:Fd.En) (w:World) (hg:Gl w) (hp:Pow w) :
  Calls prog 5 #[enAg x] w fun e w'=>e=.returned (.bool true)∧Below w.heap.size w w':=by
 have hlt:=hg.lt;have hst:∀ l:List UInt8,(st l).toList=l:=fun l=>Lib.toList_data _
 have HG:=Ld hg;have HPW:=Ld hp;have AL:=(Below.refl w.heap.size w).alloc (Lr) (.cells #[.string (st x.id),.string (st x.ti),.string (st x.li),.int .i64 x.at_,.string (st x.ht)] 44);have B1:=Ld AL;have XB1:=Ld (Blk.new w 44 #[.string (st x.id),.string (st x.ti),.string (st x.li),.int .i64 x.at_,.string (st x.ht)]);clear AL hg hp;unfold enAg;go_enter func5,ntmps5;go_upto_region 1 with fail;obtain⟨X,hX⟩:∃ X,X=w.heap.size:=⟨_,rfl⟩;rw[← hX] at XB1;rw[← hX];have hXw:w.heap.size≤X:=by omega
 generalize w.alloc (.cells #[.string (st x.id),.string (st x.ti),.string (st x.li),.int .i64 x.at_,.string (st x.ht)] 44)=w1 at B1 XB1 ⊢;clear hX;go_wp2_with fail;refine(q4s w1 (HG.out.below B1.out hlt)).mono ?_;rintro e w2 ⟨rfl,hb2⟩;have B2:=Ld (B1.out.trans (hb2.mono B1.out.size));have XB2:=Ld (Blk.below XB1.out hb2 XB1.out.lt);clear hb2 B1 XB1;go_wp2_with fail;refine(q72 w2 (HG.out.below B2.out hlt)).mono ?_;rintro e w3 ⟨rfl,hb3⟩;have B3:=Ld (B2.out.trans (hb3.mono B2.out.size));have XB3:=Ld (Blk.below XB2.out hb3 XB2.out.lt);clear hb3 B2 XB2;go_wp2_with fail;refine(q4m w3 (HPW.out.below B3.out)).mono ?_;rintro e w4 ⟨rfl,hb4⟩;have B4:=Ld (B3.out.trans (hb4.mono B3.out.size));have XB4:=Ld (Blk.below XB3.out hb4 XB3.out.lt);clear hb4 B3 XB3;have p0:w4.cell? ⟨X,0,none⟩=some (.string (st x.id)):=Blk.cell XB4.out 0;have p1:w4.cell? ⟨X,1,none⟩=some (.string (st x.ti)):=Blk.cell XB4.out 1;have p2:w4.cell? ⟨X,2,none⟩=some (.string (st x.li)):=Blk.cell XB4.out 2;have p3:w4.cell? ⟨X,3,none⟩=some (.int .i64 x.at_):=Blk.cell XB4.out 3;have p4:w4.cell? ⟨X,4,none⟩=some (.string (st x.ht)):=Blk.cell XB4.out 4;have HCK:=Ld (q4j x w4 (HG.out.below B4.out hlt));obtain⟨c,hc⟩:∃ c,Fd.z03 x=c:=⟨_,rfl⟩;rw[hc] at HCK;have HCC:=Ld hc;clear hc;go_wp2_with fail;refine HCK.out.mono ?_;rintro e w5 ⟨rfl,hb5⟩;have B5:=Ld (B4.out.trans (hb5.mono B4.out.size));have XB5:=Ld (Blk.below XB4.out hb5 XB4.out.lt);clear hb5 B4 XB4 p0 p1 p2 p3 p4 HCK
 by_cases hc0:c=0
 case neg =>
  have hcb:(c != 0)=true:=by simp[hc0]
  have hcd:(c == 0)=false:=beq_eq_false_iff_ne.2 hc0;clear hc0 HCC;go_wp2_with fail;go_ret;exact⟨rfl,B5.out⟩
 subst hc0;have p0:w5.cell? ⟨X,0,none⟩=some (.string (st x.id)):=Blk.cell XB5.out 0;have p1:w5.cell? ⟨X,1,none⟩=some (.string (st x.ti)):=Blk.cell XB5.out 1;have p2:w5.cell? ⟨X,2,none⟩=some (.string (st x.li)):=Blk.cell XB5.out 2;have p3:w5.cell? ⟨X,3,none⟩=some (.int .i64 x.at_):=Blk.cell XB5.out 3;have p4:w5.cell? ⟨X,4,none⟩=some (.string (st x.ht)):=Blk.cell XB5.out 4
 rcases z3c x.li with ⟨e1,e2⟩ | ⟨e1,e2⟩
 ·clear e1 HCC
  go_wp2_with fail;go_ret;exact⟨rfl,B5.out⟩
 have HLI:=Ld e1;clear e1
 by_cases ha:x.at_=0
 ·have hab:(x.at_ == 0)=true:=by rw[ha];rfl
  clear ha HCC;go_wp2_with fail;go_ret;exact⟨rfl,B5.out⟩
 have hab:(x.at_ == 0)=false:=beq_eq_false_iff_ne.2 ha;clear ha;obtain⟨l0,l1,l2,l3,l4,l5⟩:=q6d HCC.out;have z0:(st x.id).size=x.id.length:=Z4 _;have z1:(st x.ti).size=x.ti.length:=Z4 _;have z2:(st x.li).size=x.li.length:=Z4 _;have z3:(st x.ht).size=x.ht.length:=Z4 _;have HZ:=Ld (And.intro z0 (And.intro z1 (And.intro z2 z3)));have hw1:IntKind.i64.wrap (((st x.id).size:Int) + (st x.ti).size)=((st x.id).size:Int) + (st x.ti).size:=by rw[IntKind.wrap_i64];omega
 have hw2:IntKind.i64.wrap (((st x.id).size:Int) + (st x.ti).size + (st x.li).size)=((st x.id).size:Int) + (st x.ti).size + (st x.li).size:=by rw[IntKind.wrap_i64];omega
 have hw3:IntKind.i64.wrap (((st x.id).size:Int) + (st x.ti).size + (st x.li).size + (st x.ht).size)=((st x.id).size:Int) + (st x.ti).size + (st x.li).size + (st x.ht).size:=by rw[IntKind.wrap_i64];omega
 by_cases hs4:(400:Int) < ((st x.id).size:Int) + (st x.ti).size + (st x.li).size + (st x.ht).size
 ·clear z0 z1 z2 z3 l0 l1 l2 l3 l4 l5 HCC
  go_wp2_with fail;go_ret;exact⟨rfl,B5.out⟩
 have HS4:Hid (x.id.length + x.ti.length + x.li.length + x.ht.length≤400):=by show _≤_;omega
 have HL:=Ld (And.intro l4 l5);clear z0 z1 z2 z3 l0 l1 l2 l3 l4 l5;have BL:=Ld (B5.out.alloc B5.out.size (.cells #[.string (st x.id),.string (st x.ti),.string (st x.ht)] 9));have XL:=Ld (Blk.alloc XB5.out (.cells #[.string (st x.id),.string (st x.ti),.string (st x.ht)] 9));have LB:=Ld (Blk.new w5 9 #[.string (st x.id),.string (st x.ti),.string (st x.ht)]);go_upto_region 6 with fail;obtain⟨L,hL⟩:∃ L,L=w5.heap.size:=⟨_,rfl⟩;rw[← hL] at LB;rw[← hL];generalize w5.alloc (.cells #[.string (st x.id),.string (st x.ti),.string (st x.ht)] 9)=w6 at BL XL LB ⊢;clear hL p0 p1 p2 p3 p4 B5 XB5 hw1 hw2 hw3 hs4 e2 hab
 go_upto_block 0 with fail
 go_cut [] (fun wz=>Hid (∀ s ∈ [x.id,x.ti,x.ht],j8f s)∧w6=wz)
 case first =>
  as_aux_lemma =>
  go_wp2_with fail
  go_loopw [4] (fun i wr=>∃ k:Nat,k≤3∧i=.int .i64 k∧Hid (∀ s ∈ ([x.id,x.ti,x.ht]:List (List UInt8)).take k,j8f s)∧Hid (w6=wr)) (fun i _=>3 - (intOf i).toNat)
  case atStart=>exact⟨0,Nat.zero_le _,rfl,fun s hs=>(by simp at hs),rfl⟩
  case round =>
   obtain⟨k,hk,rfl,HA,HW⟩:=hrel;have hw:=HW.out;clear HW;subst hw
   by_cases hk3:k < 3
   ·obtain⟨s,hs,hcs⟩:∃ s,Hid (([x.id,x.ti,x.ht]:List (List UInt8))[k]? = some s∧s.length≤400)∧w6.cell? ⟨L,k,none⟩=some (.string (st s)):=by
     have h4:=HS4.out
     match k,hk3 with
     | 0,_=>exact⟨x.id,⟨rfl,by omega⟩,Blk.cell LB.out 0⟩
     | 1,_=>exact⟨x.ti,⟨rfl,by omega⟩,Blk.cell LB.out 1⟩
     | 2,_=>exact⟨x.ht,⟨rfl,by omega⟩,Blk.cell LB.out 2⟩
    have HTK:Hid (∀ s' ∈ ([x.id,x.ti,x.ht]:List (List UInt8)).take (k + 1),s' ∈ ([x.id,x.ti,x.ht]:List (List UInt8)).take k∨s'=s):=by
     intro s' h';rw[List.take_add_one,hs.out.1,List.mem_append] at h'
     rcases h' with h' | h'
     ·exact .inl h'
     ·exact .inr (by simpa using h')
    have hkc:(k:Int) < 3:=by omega
    rcases List.eq_nil_or_concat s with h0 | ⟨t,b,h0⟩
    ·subst h0
     have HN:Hid (∀ s' ∈ ([x.id,x.ti,x.ht]:List (List UInt8)).take (k + 1),j8f s'):=by
      intro s' h'
      rcases HTK.out s' h' with q | q
      ·exact HA.out s' q
      ·exact .inl q
     have hz0:(st ([]:List UInt8)).size=0:=rfl;clear HA;go_wp2_with fail;go_roundw
     case rel=>exact⟨k + 1,by omega,by go_num,HN,(by first | exact rfl | exact Ld trivial)⟩
     case measure=>simp[intOf];omega
    ·rw[List.concat_eq_append] at h0
     obtain⟨a,u,hau⟩:∃ a u,t++[b]=a :: u:=by
      cases t with
      | nil=>exact⟨b,[],rfl⟩
      | cons c t=>exact⟨c,t++[b],rfl⟩
     have hz:(st s).size=t.length + 1:=by rw[Z4,h0];simp
     have hlen:t.length≤400:=by have:=hs.out.2;rw[h0,List.length_append] at this;omega
     have s1:0 < (st s).size:=by omega
     have s2:t.length < (st s).size:=by omega
     have s3:((st s).size:Int) - 1=t.length:=by omega
     have s4:(0:Int) < (st s).size:=by omega
     have s5:(t.length:Int) < (st s).size:=by omega
     have s6:(1:Int)≤(st s).size:=by omega
     have hg0:∀ q:0 < (st s).size,(st s)[0]'q=a:=fun q=>by
      show s[0]'_=a;have e:s=a :: u:=h0.trans hau;subst e;rfl
     have hgl:∀ q:t.length < (st s).size,(st s)[t.length]'q=b:=fun q=>by
      subst h0;show (t++[b])[t.length]'(by simp)=b;simp
     have HEA:Hid (s.head? = some a∧s.getLast? = some b):=⟨by rw[h0,hau];rfl,by rw[h0];simp⟩;have HBA:=Ld (fun W=>q2n a W);have HBB:=Ld (fun W=>q2n b W);obtain⟨ba,hba⟩:∃ v,Fd.z2s a=v:=⟨_,rfl⟩;obtain⟨bb,hbb⟩:∃ v,Fd.z2s b=v:=⟨_,rfl⟩;rw[hba] at HBA;rw[hbb] at HBB;have HAB:=Ld (And.intro hba hbb);clear hba hbb h0 hau hz
     cases ba with
     | true =>
      go_wp2_with fail;refine(HBA.out _).mono ?_;rintro e w7 ⟨rfl,hw7⟩;subst w7;go_wp2_with fail;go_ret;exact⟨rfl,BL.out⟩
     | false =>
      go_wp2_with fail;refine(HBA.out _).mono ?_;rintro e w7 ⟨rfl,hw7⟩;subst w7;go_wp2_with fail;refine(HBB.out _).mono ?_;rintro e w7 ⟨rfl,hw7⟩;subst w7
      cases bb with
      | true =>
       go_wp2_with fail;go_ret;exact⟨rfl,BL.out⟩
      | false =>
       have HN:Hid (∀ s' ∈ ([x.id,x.ti,x.ht]:List (List UInt8)).take (k + 1),j8f s'):=by
        intro s' h'
        rcases HTK.out s' h' with q | q
        ·exact HA.out s' q
        ·rw[q];exact .inr ⟨a,b,HEA.out.1,HEA.out.2,HAB.out.1,HAB.out.2⟩
       clear HA;go_wp2_with fail;go_roundw
       case rel=>exact⟨k + 1,by omega,by go_num,HN,(by first | exact rfl | exact Ld trivial)⟩
       case measure=>simp[intOf];omega
   ·have HN:Hid (∀ s ∈ [x.id,x.ti,x.ht],j8f s):=by
     have:k=3:=by omega
     have h:=HA.out;rw[this] at h;exact h
    have hkc:¬ (k:Int) < 3:=by omega
    clear HA;go_wp2_with fail;go_meet
    case rel=>exact⟨HN,rfl⟩
 case rest =>
 obtain⟨HTR,hwz⟩:=hcut;subst hwz;have hmf:∀ (fn:Fn) (first cap:Array Value) (w:World),(Instr.makeFunc fn first cap).run prog w=.ok (.func fn first cap) w:=fun _ _ _ _=>rfl
 have p3:w6.cell? ⟨X,3,none⟩=some (.int .i64 x.at_):=Blk.cell XL.out 3;have HDP:=Ld (q8a x.at_ HL.out.1 HL.out.2 w6 (HPW.out.below BL.out));go_wp2_with fail;refine HDP.out.mono ?_;rintro e w7 ⟨rfl,hb7⟩;have B7:=Ld (BL.out.trans (hb7.mono BL.out.size));have X7:=Ld (Blk.below XL.out hb7 XL.out.lt);clear hb7 HDP BL XL LB p3;go_upto_region 14 with fail;have kid:∀ (t s:List UInt8) (W:World),Calls prog 26 #[.string (st t),.string (st s)] W fun e w'=>∃ ao cap,e=.returned (.agg #[.string (st t),.slice none 0 0,.string (st []),.slice ao (kidF s).len cap])∧FoV w' (Nw W w') (.slice ao (kidF s).len cap) (kidF s)∧Below W.heap.size W w':=by
  intro t s W;refine(lw_kid t s W).mono ?_;rintro e w' ⟨vk,rfl,h1,h2⟩;obtain⟨ao,cap,xs,rfl,_⟩:=id h1;exact⟨ao,cap,rfl,h1,h2⟩
 have HK1:Hid (∀ W,Calls prog 26 #[.string { data:=#[105,100] },.string (st x.id)] W fun e w'=>∃ ao cap,e=.returned (.agg #[.string (st Fd.tId),.slice none 0 0,.string (st []),.slice ao (kidF x.id).len cap])∧FoV w' (Nw W w') (.slice ao (kidF x.id).len cap) (kidF x.id)∧Below W.heap.size W w'):=fun W=>kid Fd.tId x.id W
 have HK2:Hid (∀ W,Calls prog 26 #[.string { data:=#[116,105,116,108,101] },.string (st x.ti)] W fun e w'=>∃ ao cap,e=.returned (.agg #[.string (st Fd.z5z),.slice none 0 0,.string (st []),.slice ao (kidF x.ti).len cap])∧FoV w' (Nw W w') (.slice ao (kidF x.ti).len cap) (kidF x.ti)∧Below W.heap.size W w'):=fun W=>kid Fd.z5z x.ti W
 have HK3:Hid (∀ W,Calls prog 26 #[.string { data:=#[117,112,100,97,116,101,100] },.string (st (Fd.Y5 x.at_))] W fun e w'=>∃ ao cap,e=.returned (.agg #[.string (st Fd.tUpd),.slice none 0 0,.string (st []),.slice ao (kidF (Fd.Y5 x.at_)).len cap])∧FoV w' (Nw W w') (.slice ao (kidF (Fd.Y5 x.at_)).len cap) (kidF (Fd.Y5 x.at_))∧Below W.heap.size W w'):=fun W=>kid Fd.tUpd (Fd.Y5 x.at_) W
 have HK4:Hid (∀ W,Calls prog 26 #[.string { data:=#[99,111,110,116,101,110,116] },.string (st x.ht)] W fun e w'=>∃ ao cap,e=.returned (.agg #[.string (st Fd.q5c),.slice none 0 0,.string (st []),.slice ao (kidF x.ht).len cap])∧FoV w' (Nw W w') (.slice ao (kidF x.ht).len cap) (kidF x.ht)∧Below W.heap.size W w'):=fun W=>kid Fd.q5c x.ht W
 have HSW:Hid (∀ W,Below w7.heap.size w7 W→(W.cell? ⟨X,0,none⟩=some (.string (st x.id))∧W.cell? ⟨X,1,none⟩=some (.string (st x.ti))∧W.cell? ⟨X,2,none⟩=some (.string (st x.li))∧W.cell? ⟨X,4,none⟩=some (.string (st x.ht)))):=by
  intro W hW;have hb:=Blk.below X7.out hW X7.out.lt;exact⟨Blk.cell hb 0,Blk.cell hb 1,Blk.cell hb 2,Blk.cell hb 4⟩
 have R0:Hid (Below w7.heap.size w7 w7.drew):=(Below.refl _ _).drew;have XLT:=Ld X7.out.lt;clear kid
 go_cut [9] (fun p wz=>∃ E ao cap,p=.pointer (some ⟨E,0,none⟩)∧Hid (Below w7.heap.size w7 wz∧w7.heap.size≤E∧Blk wz E 53 #[.string (st Fd.j08),.slice none 0 0,.string (st []),.slice ao (Fd.Q8 x).len cap]∧FoV wz (Kx w7 E wz) (.slice ao (Fd.Q8 x).len cap) (Fd.Q8 x)))
 case first =>
  refine wp_region_held_drew (S:=fun W=>W.cell? ⟨X,0,none⟩=some (.string (st x.id))∧W.cell? ⟨X,1,none⟩=some (.string (st x.ti))∧W.cell? ⟨X,2,none⟩=some (.string (st x.li))∧W.cell? ⟨X,4,none⟩=some (.string (st x.ht))) (by kernel_rfl) (HSW.out _ R0.out) (fun hHeld=>?_);refine Q7 (i:=0) (some 99) rfl rfl (by kernel_rfl) (by kernel_rfl) (by kernel_rfl) (fun _ _ _ h=>h) (Or.inl ⟨by rfl,by (intro w hSw;(try dsimp only at hSw);go_simp;try with_reducible rfl)⟩) (by assumption) ?_
  (try simp only [Act.put,List.setIfInBounds_toArray,List.set_cons_zero,List.set_cons_succ])
  refine Q7 (i:=1) (some 100) rfl rfl (by kernel_rfl) (by kernel_rfl) (by kernel_rfl) (fun _ _ _ h=>h) (Or.inl ⟨by rfl,by (intro w hSw;(try dsimp only at hSw);go_simp;try with_reducible rfl)⟩) (by assumption) ?_
  (try simp only [Act.put,List.setIfInBounds_toArray,List.set_cons_zero,List.set_cons_succ])
  refine Q7 (i:=2) (some 101) rfl rfl (by kernel_rfl) (by kernel_rfl) (by kernel_rfl) (fun _ _ _ h=>h) (Or.inl ⟨by rfl,by (intro w hSw;(try dsimp only at hSw);go_simp;try with_reducible rfl)⟩) (by assumption) ?_
  (try simp only [Act.put,List.setIfInBounds_toArray,List.set_cons_zero,List.set_cons_succ])
  refine Q7 (i:=4) (some 103) rfl rfl (by kernel_rfl) (by kernel_rfl) (by kernel_rfl) (fun _ _ _ h=>h) (Or.inl ⟨by rfl,by (intro w hSw;(try dsimp only at hSw);go_simp;try with_reducible rfl)⟩) (by assumption) ?_
  (try simp only [Act.put,List.setIfInBounds_toArray,List.set_cons_zero,List.set_cons_succ])
  refine Q7 (i:=5) (some 104) rfl rfl (by kernel_rfl) (by kernel_rfl) (by kernel_rfl) (fun _ _ _ h=>h) (Or.inl ⟨by rfl,by (intro w hSw;(try dsimp only at hSw);go_simp;try with_reducible rfl)⟩) (by assumption) ?_
  (try simp only [Act.put,List.setIfInBounds_toArray,List.set_cons_zero,List.set_cons_succ])
  refine Q7 (i:=6) (some 105) rfl rfl (by kernel_rfl) (by kernel_rfl) (by kernel_rfl) (fun _ _ _ h=>h) (Or.inl ⟨by rfl,by (intro w hSw;(try dsimp only at hSw);go_simp;try with_reducible rfl)⟩) (by assumption) ?_
  (try simp only [Act.put,List.setIfInBounds_toArray,List.set_cons_zero,List.set_cons_succ])
  refine Q7 (i:=8) (some 107) rfl rfl (by kernel_rfl) (by kernel_rfl) (by kernel_rfl) (fun _ _ _ h=>h) (Or.inl ⟨by rfl,by (intro w hSw;(try dsimp only at hSw);go_simp;try with_reducible rfl)⟩) (by assumption) ?_
  (try simp only [Act.put,List.setIfInBounds_toArray,List.set_cons_zero,List.set_cons_succ])
  refine Q7 (i:=9) (some 108) rfl rfl (by kernel_rfl) (by kernel_rfl) (by kernel_rfl) (fun _ _ _ h=>h) (Or.inl ⟨by rfl,by (intro w hSw;(try dsimp only at hSw);go_simp;try with_reducible rfl)⟩) (by assumption) ?_
  (try simp only [Act.put,List.setIfInBounds_toArray,List.set_cons_zero,List.set_cons_succ])
  refine Q7 (i:=11) (some 110) rfl rfl (by kernel_rfl) (by kernel_rfl) (by kernel_rfl) (fun _ _ _ h=>h) (Or.inl ⟨by rfl,by (intro w hSw;(try dsimp only at hSw);go_simp;try with_reducible rfl)⟩) (by assumption) ?_
  (try simp only [Act.put,List.setIfInBounds_toArray,List.set_cons_zero,List.set_cons_succ])
  refine Q7 (i:=12) (some 111) rfl rfl (by kernel_rfl) (by kernel_rfl) (by kernel_rfl) (fun _ _ _ h=>h) (Or.inl ⟨by rfl,by (intro w hSw;(try dsimp only at hSw);go_simp;try with_reducible rfl)⟩) (by assumption) ?_
  (try simp only [Act.put,List.setIfInBounds_toArray,List.set_cons_zero,List.set_cons_succ])
  refine Q7 (i:=13) (some 112) rfl rfl (by kernel_rfl) (by kernel_rfl) (by kernel_rfl) (fun _ _ _ h=>h) (Or.inl ⟨by rfl,by (intro w hSw;(try dsimp only at hSw);go_simp;try with_reducible rfl)⟩) (by assumption) ?_
  (try simp only [Act.put,List.setIfInBounds_toArray,List.set_cons_zero,List.set_cons_succ])
  refine Q7 (i:=15) (some 114) rfl rfl (by kernel_rfl) (by kernel_rfl) (by kernel_rfl) (fun _ _ _ h=>h) (Or.inl ⟨by rfl,by (intro w hSw;(try dsimp only at hSw);go_simp;try with_reducible rfl)⟩) (by assumption) ?_
  (try simp only [Act.put,List.setIfInBounds_toArray,List.set_cons_zero,List.set_cons_succ])
  refine Q7 (i:=16) (some 115) rfl rfl (by kernel_rfl) (by kernel_rfl) (by kernel_rfl) (fun _ _ _ h=>h) (Or.inl ⟨by rfl,by (intro w hSw;(try dsimp only at hSw);go_simp;try with_reducible rfl)⟩) (by assumption) ?_
  (try simp only [Act.put,List.setIfInBounds_toArray,List.set_cons_zero,List.set_cons_succ])
  refine Q7 (i:=17) (some 116) rfl rfl (by kernel_rfl) (by kernel_rfl) (by kernel_rfl) (fun _ _ _ h=>h) (Or.inl ⟨by rfl,by (intro w hSw;(try dsimp only at hSw);go_simp;try with_reducible rfl)⟩) (by assumption) ?_
  (try simp only [Act.put,List.setIfInBounds_toArray,List.set_cons_zero,List.set_cons_succ])
  refine q1l [3,7,10,14,18,19,20,21,22,23] [102,106,109,113,117,118,119,120,9] (fun L vs W=>∃ E v3 v7 v10 v14 v18 v19 v20 v21 v22,vs=[v3,v7,v10,v14,v18,v19,v20,v21,v22]∧Ent x w7 L E v3 v7 v10 v14 v18 v19 v20 v21 v22 W) ?_ (by kernel_rfl) ?_ ?_ ?_
  ·rintro L vs W ⟨E,v3,v7,v10,v14,v18,v19,v20,v21,v22,_,h⟩
   exact HSW.out W h.bel
  ·intro L vs hL hlen
   obtain⟨v3,v7,v10,v14,v18,v19,v20,v21,v22,rfl⟩:=list9 hlen;exact⟨X,_,_,_,_,_,_,_,_,_,rfl,R0.out,XLT.out,fun q=>absurd q (by rw[hL 3 (by decide)];decide),fun q=>absurd q (by rw[hL 7 (by decide)];decide),fun q=>absurd q (by rw[hL 10 (by decide)];decide),fun q=>absurd q (by rw[hL 14 (by decide)];decide),fun q=>absurd q (by rw[hL 18 (by decide)];decide),fun q=>absurd q (by rw[hL 19 (by decide)];decide),fun q=>absurd q (by rw[hL 20 (by decide)];decide),fun q=>absurd q (by rw[hL 21 (by decide)];decide),fun q=>absurd q (by rw[hL 22 (by decide)];decide),fun q=>absurd q (by rw[hL 22 (by decide)];decide),fun q=>absurd q (by rw[hL 23 (by decide)];decide),fun q=>absurd q (by rw[hL 23 (by decide)];decide)⟩
  ·refine List.forall_mem_cons.2 ⟨?a3,List.forall_mem_cons.2 ⟨?a7,List.forall_mem_cons.2 ⟨?a10,List.forall_mem_cons.2 ⟨?a14,List.forall_mem_cons.2 ⟨?a18,List.forall_mem_cons.2 ⟨?a19,List.forall_mem_cons.2 ⟨?a20,List.forall_mem_cons.2 ⟨?a21,List.forall_mem_cons.2 ⟨?a22,List.forall_mem_cons.2 ⟨?a23,fun _ h=>absurd h List.not_mem_nil⟩⟩⟩⟩⟩⟩⟩⟩⟩⟩
   case a3 =>
    rintro L vs W ⟨E,v3,v7,v10,v14,v18,v19,v20,v21,v22,rfl,h⟩ hl hw;refine V3 rfl (by kernel_rfl) fun K hK=>?_
    generalize hpa:X4 _ _ _=aa;refine Oper.wp_enter 26 #[.string { data:=#[105,100] },.string (st x.id)] (by subst hpa;kernel_rfl) ((HK1.out W).mono ?_);rintro e W2 ⟨ao,cap,rfl,f,b⟩;have hz1:=h.lt;have hz2:=h.bel.size;have hv:KidG W2 (Kx w7 E W2) Fd.tId x.id (.agg #[.string (st Fd.tId),.slice none 0 0,.string (st []),.slice ao (kidF x.id).len cap]):=⟨ao,cap,rfl,f.frame fun b q=>⟨⟨Nat.le_trans hz2 q.1,q.2,by have:=q.1;omega⟩,rfl⟩⟩;exact⟨_,rfl,hK.out _ _ ⟨[.agg #[.string (st Fd.tId),.slice none 0 0,.string (st []),.slice ao (kidF x.id).len cap],v7,v10,v14,v18,v19,v20,v21,v22],by (subst hpa;kernel_rfl),E,_,v7,v10,v14,v18,v19,v20,v21,v22,rfl,(h.grow b).put3 hv⟩⟩
   case a7 =>
    rintro L vs W ⟨E,v3,v7,v10,v14,v18,v19,v20,v21,v22,rfl,h⟩ hl hw;refine V3 rfl (by kernel_rfl) fun K hK=>?_
    generalize hpa:X4 _ _ _=aa;refine Oper.wp_enter 26 #[.string { data:=#[116,105,116,108,101] },.string (st x.ti)] (by subst hpa;kernel_rfl) ((HK2.out W).mono ?_);rintro e W2 ⟨ao,cap,rfl,f,b⟩;have hz1:=h.lt;have hz2:=h.bel.size;have hv:KidG W2 (Kx w7 E W2) Fd.z5z x.ti (.agg #[.string (st Fd.z5z),.slice none 0 0,.string (st []),.slice ao (kidF x.ti).len cap]):=⟨ao,cap,rfl,f.frame fun b q=>⟨⟨Nat.le_trans hz2 q.1,q.2,by have:=q.1;omega⟩,rfl⟩⟩;exact⟨_,rfl,hK.out _ _ ⟨[v3,.agg #[.string (st Fd.z5z),.slice none 0 0,.string (st []),.slice ao (kidF x.ti).len cap],v10,v14,v18,v19,v20,v21,v22],by (subst hpa;kernel_rfl),E,v3,_,v10,v14,v18,v19,v20,v21,v22,rfl,(h.grow b).put7 hv⟩⟩
   case a10 =>
    rintro L vs W ⟨E,v3,v7,v10,v14,v18,v19,v20,v21,v22,rfl,h⟩ hl hw;refine V3 rfl (by kernel_rfl) fun K hK=>?_
    generalize hpa:X4 _ _ _=aa;refine Oper.wp_enter 26 #[.string { data:=#[117,112,100,97,116,101,100] },.string (st (Fd.Y5 x.at_))] (by subst hpa;kernel_rfl) ((HK3.out W).mono ?_);rintro e W2 ⟨ao,cap,rfl,f,b⟩;have hz1:=h.lt;have hz2:=h.bel.size;have hv:KidG W2 (Kx w7 E W2) Fd.tUpd (Fd.Y5 x.at_) (.agg #[.string (st Fd.tUpd),.slice none 0 0,.string (st []),.slice ao (kidF (Fd.Y5 x.at_)).len cap]):=⟨ao,cap,rfl,f.frame fun b q=>⟨⟨Nat.le_trans hz2 q.1,q.2,by have:=q.1;omega⟩,rfl⟩⟩;exact⟨_,rfl,hK.out _ _ ⟨[v3,v7,.agg #[.string (st Fd.tUpd),.slice none 0 0,.string (st []),.slice ao (kidF (Fd.Y5 x.at_)).len cap],v14,v18,v19,v20,v21,v22],by (subst hpa;kernel_rfl),E,v3,v7,_,v14,v18,v19,v20,v21,v22,rfl,(h.grow b).put10 hv⟩⟩
   case a14 =>
    rintro L vs W ⟨E,v3,v7,v10,v14,v18,v19,v20,v21,v22,rfl,h⟩ hl hw;refine V3 rfl (by kernel_rfl) fun K hK=>?_
    generalize hpa:X4 _ _ _=aa;refine Oper.wp_enter 26 #[.string { data:=#[99,111,110,116,101,110,116] },.string (st x.ht)] (by subst hpa;kernel_rfl) ((HK4.out W).mono ?_);rintro e W2 ⟨ao,cap,rfl,f,b⟩;have hz1:=h.lt;have hz2:=h.bel.size;have hv:KidG W2 (Kx w7 E W2) Fd.q5c x.ht (.agg #[.string (st Fd.q5c),.slice none 0 0,.string (st []),.slice ao (kidF x.ht).len cap]):=⟨ao,cap,rfl,f.frame fun b q=>⟨⟨Nat.le_trans hz2 q.1,q.2,by have:=q.1;omega⟩,rfl⟩⟩;exact⟨_,rfl,hK.out _ _ ⟨[v3,v7,v10,.agg #[.string (st Fd.q5c),.slice none 0 0,.string (st []),.slice ao (kidF x.ht).len cap],v18,v19,v20,v21,v22],by (subst hpa;kernel_rfl),E,v3,v7,v10,_,v18,v19,v20,v21,v22,rfl,(h.grow b).put14 hv⟩⟩
   case a18 =>
    rintro L vs W ⟨E,v3,v7,v10,v14,v18,v19,v20,v21,v22,rfl,h⟩ hl hw;have hz1:=h.lt;have hz2:=h.bel.size;have al:=(Below.refl W.heap.size W).alloc (Lr) (.cells #[.string (st Fd.j7l),.string (st x.li)] 56);have nb:=Blk.new W 56 #[.string (st Fd.j7l),.string (st x.li)];refine V3 rfl (by kernel_rfl) fun K hK=>?_
    generalize hpa:X4 _ _ _=aa;refine Oper.wp_value (.slice (some ⟨W.heap.size,0,none⟩) 1 1) (W.alloc (.cells #[.string (st Fd.j7l),.string (st x.li)] 56)) (by subst hpa;kernel_rfl) ?_;exact hK.out _ _ ⟨[v3,v7,v10,v14,.slice (some ⟨W.heap.size,0,none⟩) 1 1,v19,v20,v21,v22],by (subst hpa;kernel_rfl),E,v3,v7,v10,v14,_,v19,v20,v21,v22,rfl,(h.grow al).put18 (j0q nb ⟨hz2,nb.lt,by omega⟩)⟩
   case a19 =>
    rintro L vs W ⟨E,v3,v7,v10,v14,v18,v19,v20,v21,v22,rfl,h⟩ hl hw;have q18:L 18=true:=hw 18 (List.contains_iff_mem.1 (by kernel_rfl));have f:=h.k18 q18;obtain⟨ab,cb,rfl,_⟩:=id f;refine V3 rfl (by kernel_rfl) fun K hK=>?_
    generalize hpa:X4 _ _ _=aa;refine Oper.wp_value (.agg #[.string (st Fd.z8t),.slice ab (List.length [(⟨Fd.j7l,x.li⟩:Mk.At)]) cb,.string (st []),.slice none 0 0]) W (by subst hpa;kernel_rfl) ?_;exact hK.out _ _ ⟨[v3,v7,v10,v14,.slice ab (List.length [(⟨Fd.j7l,x.li⟩:Mk.At)]) cb,.agg #[.string (st Fd.z8t),.slice ab (List.length [(⟨Fd.j7l,x.li⟩:Mk.At)]) cb,.string (st []),.slice none 0 0],v20,v21,v22],by (subst hpa;kernel_rfl),E,v3,v7,v10,v14,.slice ab (List.length [(⟨Fd.j7l,x.li⟩:Mk.At)]) cb,_,v20,v21,v22,rfl,h.put19 ⟨_,rfl,f⟩⟩
   case a20 =>
    rintro L vs W ⟨E,v3,v7,v10,v14,v18,v19,v20,v21,v22,rfl,h⟩ hl hw;obtain⟨a1,c1,rfl,f1⟩:=h.k3 (hw 3 (List.contains_iff_mem.1 (by kernel_rfl)));obtain⟨a2,c2,rfl,f2⟩:=h.k7 (hw 7 (List.contains_iff_mem.1 (by kernel_rfl)));obtain⟨a3,c3,rfl,f3⟩:=h.k10 (hw 10 (List.contains_iff_mem.1 (by kernel_rfl)));obtain⟨a4,c4,rfl,f4⟩:=h.k14 (hw 14 (List.contains_iff_mem.1 (by kernel_rfl)));obtain⟨va,rfl,f5⟩:=h.k19 (hw 19 (List.contains_iff_mem.1 (by kernel_rfl)));obtain⟨ab,cb,rfl,_⟩:=id f5;have hz1:=h.lt;have hz2:=h.bel.size;obtain⟨OB,hOB⟩:∃ OB,OB=Obj.cells #[.string (st Fd.tId),.slice none 0 0,.string (st []),.slice a1 (kidF x.id).len c1,.string (st Fd.z5z),.slice none 0 0,.string (st []),.slice a2 (kidF x.ti).len c2,.string (st Fd.tUpd),.slice none 0 0,.string (st []),.slice a3 (kidF (Fd.Y5 x.at_)).len c3,.string (st Fd.q5c),.slice none 0 0,.string (st []),.slice a4 (kidF x.ht).len c4,.string (st Fd.z8t),.slice ab (List.length [(⟨Fd.j7l,x.li⟩:Mk.At)]) cb,.string (st []),.slice none 0 0] 53:=⟨_,rfl⟩;have al:=(Below.refl W.heap.size W).alloc (Lr) OB;have hk:=Kx.grow (w0:=w7) (E:=E) (E':=E) al (.inl rfl);have nb:=Blk.new W 53 #[.string (st Fd.tId),.slice none 0 0,.string (st []),.slice a1 (kidF x.id).len c1,.string (st Fd.z5z),.slice none 0 0,.string (st []),.slice a2 (kidF x.ti).len c2,.string (st Fd.tUpd),.slice none 0 0,.string (st []),.slice a3 (kidF (Fd.Y5 x.at_)).len c3,.string (st Fd.q5c),.slice none 0 0,.string (st []),.slice a4 (kidF x.ht).len c4,.string (st Fd.z8t),.slice ab (List.length [(⟨Fd.j7l,x.li⟩:Mk.At)]) cb,.string (st []),.slice none 0 0];rw[← hOB] at nb;have fk:=q6f (f1.frame hk) (f2.frame hk) (f3.frame hk) (f4.frame hk) (f5.frame hk) nb ⟨hz2,nb.lt,by omega⟩;refine V3 rfl (by kernel_rfl) fun K hK=>?_
    generalize hpa:X4 _ _ _=aa;refine Oper.wp_value (.slice (some ⟨W.heap.size,0,none⟩) 5 5) (W.alloc OB) (by subst hpa;subst hOB;kernel_rfl) ?_;exact hK.out _ _ ⟨[.agg #[.string (st Fd.tId),.slice none 0 0,.string (st []),.slice a1 (kidF x.id).len c1],.agg #[.string (st Fd.z5z),.slice none 0 0,.string (st []),.slice a2 (kidF x.ti).len c2],.agg #[.string (st Fd.tUpd),.slice none 0 0,.string (st []),.slice a3 (kidF (Fd.Y5 x.at_)).len c3],.agg #[.string (st Fd.q5c),.slice none 0 0,.string (st []),.slice a4 (kidF x.ht).len c4],v18,.agg #[.string (st Fd.z8t),.slice ab (List.length [(⟨Fd.j7l,x.li⟩:Mk.At)]) cb,.string (st []),.slice none 0 0],.slice (some ⟨W.heap.size,0,none⟩) 5 5,v21,v22],by (subst hpa;kernel_rfl),E,_,_,_,_,v18,_,_,v21,v22,rfl,(h.grow al).put20 fk⟩
   case a21 =>
    rintro L vs W ⟨E,v3,v7,v10,v14,v18,v19,v20,v21,v22,rfl,h⟩ hl hw;have f:=h.k20 (hw 20 (List.contains_iff_mem.1 (by kernel_rfl)));obtain⟨ao,cap,xs,rfl,_⟩:=id f;refine V3 rfl (by kernel_rfl) fun K hK=>?_
    generalize hpa:X4 _ _ _=aa;refine Oper.wp_value (.agg #[.string (st Fd.j08),.slice none 0 0,.string (st []),.slice ao (Fd.Q8 x).len cap]) W (by subst hpa;kernel_rfl) ?_;exact hK.out _ _ ⟨[v3,v7,v10,v14,v18,v19,.slice ao (Fd.Q8 x).len cap,.agg #[.string (st Fd.j08),.slice none 0 0,.string (st []),.slice ao (Fd.Q8 x).len cap],v22],by (subst hpa;kernel_rfl),E,v3,v7,v10,v14,v18,v19,_,_,v22,rfl,h.put21 ⟨_,_,rfl,f⟩⟩
   case a22 =>
    rintro L vs W ⟨E,v3,v7,v10,v14,v18,v19,v20,v21,v22,rfl,h⟩ hl hw;have h23:L 23=false:=by
     cases hb:L 23 with
     | false=>rfl
     | true=>exact absurd (h.c23 hb) (by rw[hl];decide)
    refine V3 rfl (by kernel_rfl) fun K hK=>?_
    generalize hpa:X4 _ _ _=aa;refine Oper.wp_value (.pointer (some ⟨W.heap.size,0,none⟩)) (W.alloc (.cells #[.string ⟨#[]⟩,.slice none 0 0,.string ⟨#[]⟩,.slice none 0 0] 53)) (by subst hpa;kernel_rfl) ?_;exact hK.out _ _ ⟨[v3,v7,v10,v14,v18,v19,v20,v21,.pointer (some ⟨W.heap.size,0,none⟩)],by (subst hpa;kernel_rfl),W.heap.size,v3,v7,v10,v14,v18,v19,v20,v21,_,rfl,h.put22 h23⟩
   case a23 =>
    rintro L vs W ⟨E,v3,v7,v10,v14,v18,v19,v20,v21,v22,rfl,h⟩ hl hw;have q22:=hw 22 (List.contains_iff_mem.1 (by kernel_rfl));have q21:=hw 21 (List.contains_iff_mem.1 (by kernel_rfl));obtain⟨rfl,hE0⟩:=h.k22 q22;have hB:=h.b22 q22 hl;obtain⟨ao,cap,rfl,f⟩:=h.k21 q21;have y0:=Blk.cell hB 0;have y1:=Blk.cell hB 1;have y2:=Blk.cell hB 2;have y3:=Blk.cell hB 3;have g0:=Blk.frozen hB 0;have g1:=Blk.frozen hB 1;have g2:=Blk.frozen hB 2;have g3:=Blk.frozen hB 3;have HH:=Ld h;have HF:=Ld f;clear h f hw hl;refine V3 rfl (by kernel_rfl) fun K hK=>?_
    simp only [X4,Act.put,List.setIfInBounds_toArray,List.set_cons_zero,List.set_cons_succ]
    go_simp
    have e1:∀ k,k < W.heap.size→k ≠ E→((((W.setCell ⟨E,0,none⟩ (.string (st Fd.j08))).setCell ⟨E,1,none⟩ (.slice none 0 0)).setCell ⟨E,2,none⟩ (.string (st []))).setCell ⟨E,3,none⟩ (.slice ao (Fd.Q8 x).len cap)).heap[k]? = W.heap[k]?:=fun k _ hk=>by
     rw[Below.heap_setCell _ _ _ _ hk,Below.heap_setCell _ _ _ _ hk,Below.heap_setCell _ _ _ _ hk,Below.heap_setCell _ _ _ _ hk]
    have e2:((((W.setCell ⟨E,0,none⟩ (.string (st Fd.j08))).setCell ⟨E,1,none⟩ (.slice none 0 0)).setCell ⟨E,2,none⟩ (.string (st []))).setCell ⟨E,3,none⟩ (.slice ao (Fd.Q8 x).len cap)).heap.size=W.heap.size:=by simp[World.setCell]
    have e3:Below w7.heap.size w7 ((((W.setCell ⟨E,0,none⟩ (.string (st Fd.j08))).setCell ⟨E,1,none⟩ (.slice none 0 0)).setCell ⟨E,2,none⟩ (.string (st []))).setCell ⟨E,3,none⟩ (.slice ao (Fd.Q8 x).len cap)):=(((HH.out.bel.setCell (p:=⟨E,0,none⟩) hE0 _).setCell (p:=⟨E,1,none⟩) hE0 _).setCell (p:=⟨E,2,none⟩) hE0 _).setCell (p:=⟨E,3,none⟩) hE0 _;have e4:Blk ((((W.setCell ⟨E,0,none⟩ (.string (st Fd.j08))).setCell ⟨E,1,none⟩ (.slice none 0 0)).setCell ⟨E,2,none⟩ (.string (st []))).setCell ⟨E,3,none⟩ (.slice ao (Fd.Q8 x).len cap)) E 53 #[.string (st Fd.j08),.slice none 0 0,.string (st []),.slice ao (Fd.Q8 x).len cap]:=Blk.set_ (Blk.set_ (Blk.set_ (Blk.set_ hB 0 (.string (st Fd.j08))) 1 (.slice none 0 0)) 2 (.string (st []))) 3 (.slice ao (Fd.Q8 x).len cap);have h9:=HH.out.put23 q22 q21 e1 e2 e3 rfl e4;exact hK.out _ _ ⟨[v3,v7,v10,v14,v18,v19,v20,.agg #[.string (st Fd.j08),.slice none 0 0,.string (st []),.slice ao (Fd.Q8 x).len cap],.pointer (some ⟨E,0,none⟩)],by kernel_rfl,E,v3,v7,v10,v14,v18,v19,v20,_,_,rfl,h9⟩
  ·rintro L vs W ⟨E,v3,v7,v10,v14,v18,v19,v20,v21,v22,rfl,h⟩ hall
   obtain⟨rfl,hE0⟩:=h.k22 (hall 22 (by decide));obtain⟨ao,cap,hb,hf⟩:=h.k23 (hall 23 (by decide));have HX:=Ld (And.intro h.bel (And.intro hE0 (And.intro hb hf)));clear h hall;simp only [X4,Act.put,List.setIfInBounds_toArray,List.set_cons_zero,List.set_cons_succ];go_wp2_with fail;go_meet
   case rel=>exact⟨E,ao,cap,rfl,HX⟩
 case rest =>
 obtain⟨E,ao,cap,rfl,HE⟩:=hcut;clear HK1 HK2 HK3 HK4 HSW R0 XLT hmf;obtain⟨w8,hw8⟩:∃ z,z=wc:=⟨_,rfl⟩;subst hw8;obtain⟨hbel,hE0,hblk,hfo⟩:=HE.out;have B8:=Ld (B7.out.trans (hbel.mono B7.out.size));have X8:=Ld (Blk.below X7.out hbel X7.out.lt);clear HE B7 X7;have q0:w8.cell? ⟨E,0,none⟩=some (.string (st Fd.j08)):=Blk.cell hblk 0;have q1:w8.cell? ⟨E,1,none⟩=some (.slice none 0 0):=Blk.cell hblk 1;have q2:w8.cell? ⟨E,2,none⟩=some (.string (st [])):=Blk.cell hblk 2;have q3:w8.cell? ⟨E,3,none⟩=some (.slice ao (Fd.Q8 x).len cap):=Blk.cell hblk 3;have al:=(Below.refl w8.heap.size w8).alloc (Lr) (.cells #[.string (st Fd.j08),.slice none 0 0,.string (st []),.slice ao (Fd.Q8 x).len cap] 53);have nb:=Blk.new w8 53 #[.string (st Fd.j08),.slice none 0 0,.string (st []),.slice ao (Fd.Q8 x).len cap];have hfk:=hfo.below (fun b q=>q.2.1) al;have fo:=FoV.one (K:=fun b=>b≤w8.heap.size) (n:=Fd.j08) (a:=[]) (t:=[]) (k:=Fd.Q8 x) nb (Lr) (AtsV.nil _ _) (hfk.frame fun b q=>⟨Nat.le_of_lt q.2.1,rfl⟩) 1;have HPR:Hid (Calls prog 27 #[.agg #[.string { data:=#[102,101,101,100] },.slice none 0 0,.string { data:=#[] },.slice (some ⟨w8.heap.size,0,none⟩) 1 1]] (w8.alloc (.cells #[.string (st Fd.j08),.slice none 0 0,.string (st []),.slice ao (Fd.Q8 x).len cap] 53)) fun e w'=>e=.returned (.tuple #[.string (st (Fd.z8c x)),.int .i64 0])∧Below (w8.alloc (.cells #[.string (st Fd.j08),.slice none 0 0,.string (st []),.slice ao (Fd.Q8 x).len cap] 53)).heap.size (w8.alloc (.cells #[.string (st Fd.j08),.slice none 0 0,.string (st []),.slice ao (Fd.Q8 x).len cap] 53)) w') :=
  q9u Fd.z3e [] [] (.node Fd.j08 [] [] (Fd.Q8 x) .nil) 2 (by decide) (Fd.made_size x HS4.out).1 (Fd.made_size x HS4.out).2 (Nat.le_trans (Fd.q4t x HS4.out) (by decide)) (Fd.made_ok x) (.slice none 0 0) _ (fun b=>b≤w8.heap.size) _ (AtsV.nil _ _) fo (fun b q=>Nat.lt_of_le_of_lt q nb.lt)
 have AL:=Ld (B8.out.trans (al.mono B8.out.size));have XA:=Ld (Blk.below X8.out al X8.out.lt);clear al nb hfk fo hfo hblk hbel hE0 B8 X8;go_wp2_with fail;refine HPR.out.mono ?_;rintro e w9 ⟨rfl,hb9⟩;have B9:=Ld (AL.out.trans (hb9.mono AL.out.size));have X9:=Ld (Blk.below XA.out hb9 XA.out.lt);clear HPR hb9 AL XA q0 q1 q2 q3;have tr:∀ t ∈ [x.id,x.ti,x.ht],Fd.trimmed t:=fun t ht=>Fd.j1z t (HTR.out t ht)
 have HFM:=Ld (Fd.j5s x HCC.out HLI.out (tr _ (by simp)) (tr _ (by simp)) (tr _ (by simp)));clear tr;have HRD:Hid (Calls prog 28 #[.string { data:=#[] },.string (st (Fd.z8c x))] w9 fun e w'=>z1b [] (Fd.z8c x) w9 e w'):=q3c [] (Fd.z8c x) w9 (HG.out.below B9.out hlt)
 by_cases hbig:3000 < (Fd.z8c x).length
 ·have hfm:=HFM.out
  rw[if_pos hbig] at hfm;have hz:(3000:Int) < ((st (Fd.z8c x)).size:Int):=by rw[Z4];omega
  have HRD2:Hid (Calls prog 28 #[.string { data:=#[] },.string (st (Fd.z8c x))] w9 fun e w'=>Below w9.heap.size w9 w'∧∃ ao cap,e=.returned (.tuple #[.slice ao 0 cap,.int .i64 2])):=HRD.out.mono (by
   rintro e w' ⟨h1,v,h2,ao,cap,h3,_⟩;rw[hfm] at h2 h3;subst h3;exact⟨h1,ao,cap,h2⟩)
  clear hfm HFM HRD hbig;go_wp2_with fail;refine HRD2.out.mono ?_;rintro e w10 ⟨hb10,ao2,cap2,rfl⟩;have B10:=Ld (B9.out.trans (hb10.mono B9.out.size));clear HRD2 hb10;go_wp2_with fail;go_ret;exact⟨rfl,B10.out⟩
 ·have hfm:=HFM.out
  rw[if_neg hbig] at hfm;have HRD2:Hid (Calls prog 28 #[.string { data:=#[] },.string (st (Fd.z8c x))] w9 fun e w'=>Below w9.heap.size w9 w'∧∃ ao cap,e=.returned (.tuple #[.slice ao 1 cap,.int .i64 0])∧z18 w' (Nw w9 w') (.slice ao 1 cap) [x]):=HRD.out.mono (by
   rintro e w' ⟨h1,v,h2,h3⟩;rw[hfm] at h2 h3;obtain⟨ao,cap,h4,_⟩:=id h3;subst h4;exact⟨h1,ao,cap,h2,h3⟩)
  clear hfm HFM HRD hbig;go_wp2_with fail;refine HRD2.out.mono ?_;rintro e w10 ⟨hb10,ao2,cap2,rfl,hen⟩;have B10:=Ld (B9.out.trans (hb10.mono B9.out.size));have hx10:=Blk.below X9.out hb10 X9.out.lt;have p0:w10.cell? ⟨X,0,none⟩=some (.string (st x.id)):=Blk.cell hx10 0;have p1:w10.cell? ⟨X,1,none⟩=some (.string (st x.ti)):=Blk.cell hx10 1;have p2:w10.cell? ⟨X,2,none⟩=some (.string (st x.li)):=Blk.cell hx10 2;have p3:w10.cell? ⟨X,3,none⟩=some (.int .i64 x.at_):=Blk.cell hx10 3;have p4:w10.cell? ⟨X,4,none⟩=some (.string (st x.ht)):=Blk.cell hx10 4;have al:=(Below.refl w10.heap.size w10).alloc (Lr) (.cells #[.string (st x.id),.string (st x.ti),.string (st x.li),.int .i64 x.at_,.string (st x.ht)] 44);have nb:=Blk.new w10 44 #[.string (st x.id),.string (st x.ti),.string (st x.li),.int .i64 x.at_,.string (st x.ht)];have hv:=hen.frame (w':=w10.alloc (.cells #[.string (st x.id),.string (st x.ti),.string (st x.li),.int .i64 x.at_,.string (st x.ht)] 44)) (K':=fun b=>b≤w10.heap.size) (fun b q=>⟨Nat.le_of_lt q.2,al.block b q.2⟩);have HSE:=Ld (q28 [x] [x] _ _ _ (fun b=>b≤w10.heap.size) _ hv (z18.of_blk (l:=[x]) (cap:=1) nb (Lr) (Nat.le_refl 1) (show 1≤maxLen by decide)) (fun b q=>Nat.lt_of_le_of_lt q nb.lt) (fun b q=>Nat.lt_of_le_of_lt q nb.lt) (show 1≤33554432 by decide));have AL:=Ld (B10.out.trans (al.mono B10.out.size));rw[decide_eq_true rfl] at HSE;clear al nb hv hen hx10 HRD2 hb10 B10 X9;go_wp2_with fail;refine HSE.out.mono ?_;rintro e w11 ⟨rfl,hb11⟩;have B11:=Ld (AL.out.trans (hb11.mono AL.out.size));clear HSE hb11 AL p0 p1 p2 p3 p4;go_wp2_with fail;go_ret;exact⟨rfl,B11.out⟩
end Go.Proofs.YtjonkbdldebkiaaGreatDoor
