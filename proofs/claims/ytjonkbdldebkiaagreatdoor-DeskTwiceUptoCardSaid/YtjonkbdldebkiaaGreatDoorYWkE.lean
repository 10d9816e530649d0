/- Contract of the keeper's put: an entry comes. Condition: a right shelf of at most 900 entries, a right entry. -/
import Derived.Test.YtjonkbdldebkiaaGreatDoorYWkB
import Derived.Test.YtjonkbdldebkiaaGreatDoorYWkC
import Derived.Test.YtjonkbdldebkiaaGreatDoorYWkD
import Derived.Test.YtjonkbdldebkiaaGreatDoorYWfJ
import Derived.Test.YtjonkbdldebkiaaGreatDoorYWeC
import Derived.RegionTactic
import Derived.Test.YtjonkbdldebkiaaGreatDoorYWeB
import Derived.Lib.AppendZerosOnto
import Derived.Lib.Overlaps
import Derived.Deep.RegionHeld3
set_option linter.unusedVariables false
set_option linter.unusedSimpArgs false
set_option maxHeartbeats 16000000
set_option maxRecDepth 100000
namespace Go.Proofs.YtjonkbdldebkiaaGreatDoor
open Go.Proofs.Tryz Go.RowKit
theorem kp_put {w wx:World} {M:Nat} {ue ur:Value} {es:List Fd.En} {rd:List (List UInt8)} (h:KpI w wx M ue ur es rd) (x:Fd.En) (hx:Fd.z03 x=0) (hr:Fd.z1e es) (hl:es.length≤900) :
  Calls prog 84 #[.pointer (some ⟨M,0,none⟩),enAg x] wx fun e w'=>e=.returned (.tuple #[])∧∃ ue',KpI w w' M ue' ur (Fd.putE es x) rd:=by
 have hmf:∀ (fn:Fn) (first cap:Array Value) (w:World),(Instr.makeFunc fn first cap).run prog w=.ok (.func fn first cap) w:=fun _ _ _ _=>rfl
 have hal:=(Below.refl wx.heap.size wx).alloc (Lr) (.cells #[.string (st x.id),.string (st x.ti),.string (st x.li),.int .i64 x.at_,.string (st x.ht)] 44);have K1:=Ld (h.below hal);have XB:=Ld (Blk.new wx 44 #[.string (st x.id),.string (st x.ti),.string (st x.li),.int .i64 x.at_,.string (st x.ht)]);have hMX:M ≠ wx.heap.size:=fun e=>by have:=h.mb.lt;omega
 have HOE:=Ld h.oe.lt;have HOR:=Ld h.or.lt;have HX:=Ld hx;have HR:=Ld hr;clear h hal hx hr;unfold enAg;go_enter func84,ntmps84;go_upto_region 1 with fail;obtain⟨X,hX⟩:∃ X,X=wx.heap.size:=⟨_,rfl⟩;have HOE2:Hid (ue.ownBlock ≠ some X∧ur.ownBlock ≠ some X):=⟨fun e=>by have:=(HOE.out X e).2;omega,fun e=>by have:=(HOR.out X e).2;omega⟩;rw[← hX] at XB hMX;rw[← hX];generalize wx.alloc (.cells #[.string (st x.id),.string (st x.ti),.string (st x.li),.int .i64 x.at_,.string (st x.ht)] 44)=w1 at K1 XB ⊢;clear hX HOE HOR;have x0:w1.cell? ⟨X,0,none⟩=some (.string (st x.id)):=Blk.cell XB.out 0;have HP:=Ld (q9r K1.out x.id (by omega));go_wp2_with fail;refine HP.out.mono ?_;rintro e w2 ⟨hb2,i,rfl,hi⟩;have K2:=Ld (K1.out.below hb2);have X2:=Ld (Blk.below XB.out hb2 XB.out.lt);have HI:=Ld hi;clear hb2 hi HP K1 XB x0;go_upto_region 2 with fail;go_upto_if 12 with fail
 go_cut [] (fun wz=>∃ ue2 es2,Hid (KpI w wz M ue2 ur es2 rd)∧Hid (Blk wz X 44 #[.string (st x.id),.string (st x.ti),.string (st x.li),.int .i64 x.at_,.string (st x.ht)])∧es2.length≤900∧Hid (Fd.z1e es2)∧Hid (Fd.putE es x=Fd.insE es2 x)∧Hid (ue2.ownBlock ≠ some X))
 case first =>
  as_aux_lemma =>
  rcases HI.out with ⟨rfl,hno⟩ | ⟨j,hj,rfl,hid,hah⟩
  ·have HNO:=Ld (Fd.putE_no es x hno)
   clear hno HI;go_wp2_with fail;go_meet
   case rel=>exact⟨ue,es,K2,X2,hl,HR,HNO,HOE2.out.1⟩
  ·obtain⟨ao,cap,hv,_,hc⟩:=K2.out.ents.get
   subst hv;obtain⟨g,o,rfl,_,_,_,_,c3,_⟩:=hc j hj;have m0:w2.cell? ⟨M,0,none⟩=some (.slice (some ⟨g,o,none⟩) es.length cap):=Blk.cell K2.out.mb 0;have x3:w2.cell? ⟨X,3,none⟩=some (.int .i64 x.at_):=Blk.cell X2.out 3;have hji:(j:Int) < es.length:=by omega
   have hj0:(0:Int)≤j:=by omega
   have HID:=Ld (And.intro (beq_iff_eq.1 hid) hah);obtain⟨yt,hyt⟩:∃ yt,es[j].at_=yt:=⟨_,rfl⟩
   rw[hyt] at c3;have HYT:=Ld hyt;have HDL:Hid (∀ W,Below w2.heap.size w2 W→W.cell? ⟨M,0,none⟩=some (.slice (some ⟨g,o,none⟩) es.length cap)∧Calls prog 142 #[.slice (some ⟨g,o,none⟩) es.length cap,.int .i64 j,.int .i64 ((j:Int) + 1)] W fun e w'=>∃ v',e=.returned v'∧(∃ ao2 n2 cap2,v'=.slice ao2 n2 cap2)∧w'.cell? ⟨M,0,none⟩=some (.slice (some ⟨g,o,none⟩) es.length cap)∧w'.frozen? ⟨M,0,none⟩=false∧KpI w (w'.setCell ⟨M,0,none⟩ v') M v' ur (es.take j++es.drop (j + 1)) rd∧Blk (w'.setCell ⟨M,0,none⟩ v') X 44 #[.string (st x.id),.string (st x.ti),.string (st x.li),.int .i64 x.at_,.string (st x.ht)]∧v'.ownBlock=(Value.slice (some ⟨g,o,none⟩) es.length cap).ownBlock):=by
    intro W hW;have KW:=K2.out.below hW;have XW:=Blk.below X2.out hW X2.out.lt;refine⟨Blk.cell KW.mb 0,Calls.mono (j3a es j (j + 1) (by omega) (by omega) (by omega) _ _ W KW.oe) ?_⟩;rintro e w' ⟨v',rfl,ho,hap,hbl⟩;have hmb:Blk w' M 137 #[.slice (some ⟨g,o,none⟩) es.length cap,ur]:=(hap.block M KW.mb.lt (fun e=>KW.ne e)).trans KW.mb;obtain⟨ao2,cap2,hv2⟩:=Z9 ho;refine⟨v',rfl,⟨_,_,_,hv2⟩,Blk.cell hmb 0,Blk.frozen hmb 0,KW.setE hap ho (fun g' q=>.inl (by rw[← hbl];exact q)),?_,hbl⟩;exact Blk.far ((hap.block X XW.lt (fun e=>HOE2.out.1 e)).trans XW) (p:=⟨M,0,none⟩) (fun e=>hMX e.symm) _
   clear hid hah hyt hc
   by_cases hlt:x.at_ < yt
   ·have HE:Hid (Fd.putE es x=es):=Fd.putE_old es x j hj HID.out.1 HID.out.2 (by rw[HYT.out];exact hlt)
    clear HDL HI;go_upto_region 3 with fail
    go_quiet (fail)
    go_wp2_with fail
    first | go_end0 | (simp only [Exit.inBlock,Exit.then];refine bodyPost_ret (results_none rfl _ _ _) rfl ?_) | refine bodyPost_ret (results_none rfl _ _ _) rfl ?_
    exact⟨rfl,_,by rw[HE.out];exact K2.out.below (below_drewN (Below.refl _ w2) _)⟩
   ·have HE:Hid (Fd.putE es x=Fd.insE (es.take j++es.drop (j + 1)) x):=Fd.putE_new es x j hj HID.out.1 HID.out.2 (by rw[HYT.out];exact hlt)
    clear HI;have hw1:IntKind.i64.wrap ((j:Int) + 1)=(j:Int) + 1:=by rw[IntKind.wrap_i64];omega
    go_upto_region 3 with fail
    go_quiet (fail)
    clear c3 x3;go_wp2_with fail;refine(HDL.out _ (below_drewN (Below.refl _ w2) _)).2.mono ?_;rintro e w4 ⟨v4,rfl,⟨ao2,n2,cap2,rfl⟩,m4,f4,k4,x4,hb4⟩;have K4:=Ld k4;have X4:=Ld x4;have HB4:=Ld hb4;clear k4 x4 hb4 HDL m0;go_wp2_with fail;go_meet
    case rel =>
     refine⟨_,_,K4,X4,?_,HR.out.sub ?_,HE,fun e=>?_⟩
     ·rw[List.length_append,List.length_take,List.length_drop];omega
     ·have hs:(es.take j++es.drop (j + 1)).Sublist (es.take j++es.drop j):=(List.Sublist.refl _).append (List.drop_sublist_drop_left _ (by omega))
      rw[List.take_append_drop] at hs;exact hs
     ·rw[HB4.out] at e
      exact HOE2.out.1 e
 case rest =>
 obtain⟨ue2,es2,K3,X3,hl2,HR2,HPI,HNX⟩:=hcut;obtain⟨w3,hw3⟩:∃ z,z=wc:=⟨_,rfl⟩;subst hw3;clear K2 X2 HI HOE2 HR;have hsr:=HR2.out;obtain⟨ao,cap,hu⟩:=Z9 K3.out.oe;subst hu;have HSE:Hid (∀ W,Below w3.heap.size w3.drew W→Calls prog 143 #[.slice ao es2.length cap,.agg #[.string (st x.id),.string (st x.ti),.string (st x.li),.int .i64 x.at_,.string (st x.ht)],.func (.func 47) #[] #[]] W fun e w'=>Below W.heap.size W w'∧∃ (k:Nat) (b:Bool),e=.returned (.tuple #[.int .i64 k,.bool b])∧k≤es2.length∧(∀ y ∈ es2.take k,Fd.ordE y x < 0)∧(∀ y ∈ es2.drop k,0≤Fd.ordE y x)):=by
  intro W hW;have KW:=K3.out.drew.below hW;exact j3e es2 x HR2.out.2.2 (fun y hy=>Fd.q4h (HR2.out.1 y hy)) (Fd.q4h HX.out) (by omega) _ _ W KW.ents (fun b q=>q.1)
 have HSW:Hid (∀ W,Below w3.heap.size w3.drew W→(W.cell? ⟨M,0,none⟩=some (.slice ao es2.length cap)∧(W.cell? ⟨X,0,none⟩=some (.string (st x.id))∧W.cell? ⟨X,1,none⟩=some (.string (st x.ti))∧W.cell? ⟨X,2,none⟩=some (.string (st x.li))∧W.cell? ⟨X,3,none⟩=some (.int .i64 x.at_)∧W.cell? ⟨X,4,none⟩=some (.string (st x.ht))))):=by
  intro W hW;have hb:=Blk.below (Blk.drew X3.out) hW X3.out.lt;exact⟨Blk.cell (K3.out.drew.below hW).mb 0,Blk.cell hb 0,Blk.cell hb 1,Blk.cell hb 2,Blk.cell hb 3,Blk.cell hb 4⟩
 clear hsr;go_upto_region 5 with fail
 go_cut [5] (fun p wx5=>∃ k:Nat,p=.int .i64 k∧k≤es2.length∧Hid (∀ y ∈ es2.take k,Fd.ordE y x < 0)∧Hid (∀ y ∈ es2.drop k,0≤Fd.ordE y x)∧Hid (Below w3.heap.size w3 wx5))
 case first =>
  as_aux_lemma =>
  go_region_held3 (fun W=>W.cell? ⟨M,0,none⟩=some (.slice ao es2.length cap)∧(W.cell? ⟨X,0,none⟩=some (.string (st x.id))∧W.cell? ⟨X,1,none⟩=some (.string (st x.ti))∧W.cell? ⟨X,2,none⟩=some (.string (st x.li))∧W.cell? ⟨X,3,none⟩=some (.int .i64 x.at_)∧W.cell? ⟨X,4,none⟩=some (.string (st x.ht)))) (first
   | exact HSW.out _ hb6
   | exact HSW.out _ (Below.refl _ _)) (first
   | (go_at_call 143;(with_reducible refine(HSE.out _ ?_).mono ?_);exact Below.refl _ _;rintro e w6 ⟨hb6,k,b,rfl,hk,h1,h2⟩))
  all_goals
   have H1:=Ld h1;have H2:=Ld h2;clear h1 h2;go_wp2_with fail;go_meet
   case rel=>exact⟨k,rfl,hk,H1,H2,(Below.refl w3.heap.size w3).drew.trans hb6⟩
 case rest =>
 obtain⟨k,rfl,hk,H1,H2,B5⟩:=hcut;obtain⟨w5,hw5⟩:∃ z,z=wc:=⟨_,rfl⟩;subst hw5;have K5:=Ld (K3.out.below B5.out);have X5:=Ld (Blk.below X3.out B5.out X3.out.lt);have HE:Hid (Fd.putE es x=es2.take k++x :: es2.drop k):=by
  show _=_;rw[HPI.out]
  conv=>lhs;rw[← List.take_append_drop k es2]
  exact Fd.j2a _ _ x H1.out H2.out
 clear HSE HSW K3 X3 HPI H1 H2 B5 HR2;have HIN:Hid (∀ W,W=(w5.alloc (.cells #[.string (st x.id),.string (st x.ti),.string (st x.li),.int .i64 x.at_,.string (st x.ht)] 44)).drew→W.cell? ⟨M,0,none⟩=some (.slice ao es2.length cap)∧Calls prog 144 #[.slice ao es2.length cap,.int .i64 k,.slice (some ⟨w5.heap.size,0,none⟩) 1 1] W fun e w'=>∃ v',e=.returned v'∧(∃ ao2 n2 cap2,v'=.slice ao2 n2 cap2)∧w'.cell? ⟨M,0,none⟩=some (.slice ao es2.length cap)∧w'.frozen? ⟨M,0,none⟩=false∧(w'.cell? ⟨X,0,none⟩=some (.string (st x.id))∧w'.cell? ⟨X,1,none⟩=some (.string (st x.ti))∧w'.cell? ⟨X,2,none⟩=some (.string (st x.li))∧w'.cell? ⟨X,3,none⟩=some (.int .i64 x.at_)∧w'.cell? ⟨X,4,none⟩=some (.string (st x.ht)))∧((w'.setCell ⟨M,0,none⟩ v').cell? ⟨X,0,none⟩=some (.string (st x.id))∧(w'.setCell ⟨M,0,none⟩ v').cell? ⟨X,1,none⟩=some (.string (st x.ti))∧(w'.setCell ⟨M,0,none⟩ v').cell? ⟨X,2,none⟩=some (.string (st x.li))∧(w'.setCell ⟨M,0,none⟩ v').cell? ⟨X,3,none⟩=some (.int .i64 x.at_)∧(w'.setCell ⟨M,0,none⟩ v').cell? ⟨X,4,none⟩=some (.string (st x.ht)))∧KpI w (w'.setCell ⟨M,0,none⟩ v') M v' ur (es2.take k++x :: es2.drop k) rd):=by
  rintro W rfl;have KW:=(K5.out.below ((Below.refl w5.heap.size w5).alloc (Lr) (.cells #[.string (st x.id),.string (st x.ti),.string (st x.li),.int .i64 x.at_,.string (st x.ht)] 44))).drew;have hbe:=KW.be.size;refine⟨Blk.cell KW.mb 0,Calls.mono (j3c es2 k x hk (by omega) _ w5.heap.size _ _ KW.oe (Blk.drew (Blk.new w5 _ _)) (fun e=>by have:=(K5.out.oe.lt _ e).2;omega) hbe) ?_⟩;rintro e w' ⟨v',rfl,ho,hap,hbl⟩;have hmb:Blk w' M 137 #[.slice ao es2.length cap,ur]:=(hap.block M KW.mb.lt (fun e=>KW.ne e)).trans KW.mb;obtain⟨ao2,cap2,hv2⟩:=Z9 ho;have hxb:Blk w' X 44 #[.string (st x.id),.string (st x.ti),.string (st x.li),.int .i64 x.at_,.string (st x.ht)]:=(hap.block X (by have:=X5.out.lt;simp;omega) (fun e=>HNX.out e)).trans (Blk.drew (Blk.alloc X5.out _));have hxs:=Blk.far hxb (p:=⟨M,0,none⟩) (fun e=>hMX e.symm) v';refine⟨v',rfl,⟨_,_,_,hv2⟩,Blk.cell hmb 0,Blk.frozen hmb 0,⟨Blk.cell hxb 0,Blk.cell hxb 1,Blk.cell hxb 2,Blk.cell hxb 3,Blk.cell hxb 4⟩,⟨Blk.cell hxs 0,Blk.cell hxs 1,Blk.cell hxs 2,Blk.cell hxs 3,Blk.cell hxs 4⟩,KW.setE hap ho (fun g' q=>?_)⟩
  rcases hbl with e | e
  ·exact .inl (by rw[← e];exact q)
  ·rw[e] at q
   injection q with q;exact .inr (by omega)
 have m0:w5.cell? ⟨M,0,none⟩=some (.slice ao es2.length cap):=Blk.cell K5.out.mb 0;have x0:w5.cell? ⟨X,0,none⟩=some (.string (st x.id)):=Blk.cell X5.out 0;have x1:w5.cell? ⟨X,1,none⟩=some (.string (st x.ti)):=Blk.cell X5.out 1;have x2:w5.cell? ⟨X,2,none⟩=some (.string (st x.li)):=Blk.cell X5.out 2;have x3:w5.cell? ⟨X,3,none⟩=some (.int .i64 x.at_):=Blk.cell X5.out 3;have x4:w5.cell? ⟨X,4,none⟩=some (.string (st x.ht)):=Blk.cell X5.out 4;have ma:=(HIN.out _ rfl).1;have XA:=Blk.alloc X5.out.drew (.cells #[.string (st x.id),.string (st x.ti),.string (st x.li),.int .i64 x.at_,.string (st x.ht)] 44);have HS8:Hid ((w5.alloc (.cells #[.string (st x.id),.string (st x.ti),.string (st x.li),.int .i64 x.at_,.string (st x.ht)] 44)).drew.cell? ⟨X,0,none⟩=some (.string (st x.id))∧(w5.alloc (.cells #[.string (st x.id),.string (st x.ti),.string (st x.li),.int .i64 x.at_,.string (st x.ht)] 44)).drew.cell? ⟨X,1,none⟩=some (.string (st x.ti))∧(w5.alloc (.cells #[.string (st x.id),.string (st x.ti),.string (st x.li),.int .i64 x.at_,.string (st x.ht)] 44)).drew.cell? ⟨X,2,none⟩=some (.string (st x.li))∧(w5.alloc (.cells #[.string (st x.id),.string (st x.ti),.string (st x.li),.int .i64 x.at_,.string (st x.ht)] 44)).drew.cell? ⟨X,3,none⟩=some (.int .i64 x.at_)∧(w5.alloc (.cells #[.string (st x.id),.string (st x.ti),.string (st x.li),.int .i64 x.at_,.string (st x.ht)] 44)).drew.cell? ⟨X,4,none⟩=some (.string (st x.ht))):=⟨Blk.cell XA 0,Blk.cell XA 1,Blk.cell XA 2,Blk.cell XA 3,Blk.cell XA 4⟩;have ma2:(w5.alloc (.cells #[.string (st x.id),.string (st x.ti),.string (st x.li),.int .i64 x.at_,.string (st x.ht)] 44)).cell? ⟨M,0,none⟩=some (.slice ao es2.length cap):=ma;have md:w5.drew.cell? ⟨M,0,none⟩=some (.slice ao es2.length cap):=m0;have HS5:Hid (w5.drew.cell? ⟨X,0,none⟩=some (.string (st x.id))∧w5.drew.cell? ⟨X,1,none⟩=some (.string (st x.ti))∧w5.drew.cell? ⟨X,2,none⟩=some (.string (st x.li))∧w5.drew.cell? ⟨X,3,none⟩=some (.int .i64 x.at_)∧w5.drew.cell? ⟨X,4,none⟩=some (.string (st x.ht))):=⟨x0,x1,x2,x3,x4⟩;clear XA;have HCI:=Ld (HIN.out _ rfl).2;clear HIN;go_upto_region 6 with fail;clear x0 x1 x2 x3 x4;have hS0:=And.intro md HS5.out;refine j8i (fun W=>W.cell? ⟨M,0,none⟩=some (.slice ao es2.length cap)∧W.cell? ⟨X,0,none⟩=some (.string (st x.id))∧W.cell? ⟨X,1,none⟩=some (.string (st x.ti))∧W.cell? ⟨X,2,none⟩=some (.string (st x.li))∧W.cell? ⟨X,3,none⟩=some (.int .i64 x.at_)∧W.cell? ⟨X,4,none⟩=some (.string (st x.ht))) 13 (by kernel_rfl) ?_;refine j8e 0 48 (.pointer (some ⟨M,0,none⟩)) rfl rfl (by kernel_rfl) (fun _ _ _ h=>h) (.inl ⟨by rfl,fun _ _=>by kernel_rfl⟩) hS0 ?_;refine j8e 1 49 (.pointer (some ⟨M,0,none⟩)) rfl rfl (by kernel_rfl) (fun _ _ _ h=>h) (.inl ⟨by rfl,fun _ _=>by kernel_rfl⟩) hS0 ?_;refine j8e 2 50 (.pointer (some ⟨M,0,none⟩)) rfl rfl (by kernel_rfl) (fun _ _ _ h=>h) (.inl ⟨by rfl,fun _ _=>by kernel_rfl⟩) hS0 ?_;refine j8e 3 51 (.pointer (some ⟨M,0,none⟩)) rfl rfl (by kernel_rfl) (fun _ _ _ h=>h) (.inl ⟨by rfl,fun _ _=>by kernel_rfl⟩) hS0 ?_;refine j8e 4 52 (.pointer (some ⟨M,0,none⟩)) rfl rfl (by kernel_rfl) (fun _ _ _ h=>h) (.inl ⟨by rfl,fun _ _=>by kernel_rfl⟩) hS0 ?_;simp only [Act.put,List.setIfInBounds_toArray,List.set_cons_zero,List.set_cons_succ];refine j8e 5 53 _ rfl rfl (by kernel_rfl) (fun _ _ _ h=>h) (.inl ⟨by rfl,by intro w hSw;(try dsimp only at hSw);go_simp;try with_reducible rfl⟩) hS0 ?_;refine j8e 6 54 (.int .i64 k) rfl rfl (by kernel_rfl) (fun _ _ _ h=>h) (.inl ⟨by rfl,fun _ _=>by kernel_rfl⟩) hS0 ?_;simp only [Act.put,List.setIfInBounds_toArray,List.set_cons_zero,List.set_cons_succ];refine j8e 7 55 _ rfl rfl (by kernel_rfl) (fun _ _ _ h=>h) (.inl ⟨by rfl,by intro w hSw;(try dsimp only at hSw);go_simp;try with_reducible rfl⟩) hS0 ?_;refine j8f (i:=8) (by kernel_rfl) rfl rfl (by decide) fun K hK=>?_
 refine Oper.wp_value (.slice (some ⟨w5.heap.size,0,none⟩) 1 1) (w5.alloc (.cells #[.string (st x.id),.string (st x.ti),.string (st x.li),.int .i64 x.at_,.string (st x.ht)] 44)).drew (by kernel_rfl) (hK.out _ _ ⟨ma,HS8.out⟩ ?_);clear hK;clear K;refine j8f (i:=9) (by kernel_rfl) rfl rfl (by decide) fun K hK=>?_
 refine Oper.wp_enter 144 #[.slice ao es2.length cap,.int .i64 k,.slice (some ⟨w5.heap.size,0,none⟩) 1 1] (by kernel_rfl) (HCI.out.mono ?_);rintro e w7 ⟨v7,rfl,⟨ao2,n2,cap2,rfl⟩,m7,f7,x7,x9,k7⟩;have hS7:=And.intro m7 x7;refine⟨_,rfl,hK.out _ _ hS7 ?_⟩;have K7:=Ld k7;clear k7 x7 x9 hK;clear K;refine j8f (i:=10) (by kernel_rfl) rfl rfl (by decide) fun K hK=>?_
 refine Oper.wp_value (.pointer (some ⟨M,0,none⟩)) w7 (by kernel_rfl) (hK.out _ _ hS7 ?_);clear hK;clear K;refine j8f (i:=11) (by kernel_rfl) rfl rfl (by decide) fun K hK=>?_
 refine Oper.wp_value (.pointer (some ⟨M,0,none⟩)) w7 (by kernel_rfl) (hK.out _ _ hS7 ?_);clear hK;clear K;refine j8f (i:=12) (by kernel_rfl) rfl rfl (by decide) fun K hK=>?_
 refine Oper.wp_value (.pointer (some ⟨M,0,none⟩)) w7 (by kernel_rfl) (hK.out _ _ hS7 ?_);clear hK;clear K;simp only [Act.put,List.setIfInBounds_toArray,List.set_cons_zero,List.set_cons_succ];refine j8k (by kernel_rfl) rfl rfl (by kernel_rfl) ?_
 go_simp
 all_goals
  go_wp2_with fail
  first | go_end0 | (simp only [Exit.inBlock,Exit.then];refine bodyPost_ret (results_none rfl _ _ _) rfl ?_) | refine bodyPost_ret (results_none rfl _ _ _) rfl ?_
  exact⟨rfl,_,by rw[HE.out];exact K7.out⟩
theorem q8t (a b:Fd.En) (w:World):(binOp .eql 44 (.agg #[.string (st a.id),.string (st a.ti),.string (st a.li),.int .i64 a.at_,.string (st a.ht)]) (.agg #[.string (st b.id),.string (st b.ti),.string (st b.li),.int .i64 b.at_,.string (st b.ht)])).run prog w=.ok (.bool (decide (a=b))) w:=by
 have hst:∀ l,(st l).toList=l:=fun l=>Lib.toList_data _
 simp only [binOp];simp only [Op.equal,Op.maxDepth];simp[run_equalIn_struct,go_sem];simp only [hst];obtain⟨a1,a2,a3,a4,a5⟩:=a;obtain⟨b1,b2,b3,b4,b5⟩:=b;have e:decide ((⟨a1,a2,a3,a4,a5⟩:Fd.En)=⟨b1,b2,b3,b4,b5⟩)=decide (a1=b1∧a2=b2∧a3=b3∧a4=b4∧a5=b5):=by
  rw[Bool.eq_iff_iff];simp
 rw[e]
 by_cases h1:a1=b1
 ·by_cases h2:a2=b2
  ·by_cases h3:a3=b3
   ·by_cases h4:a4=b4
    ·by_cases h5:a5=b5
     ·simp[h1,h2,h3,h4,h5]
     ·simp[h1,h2,h3,h4,h5]
    ·simp[h1,h2,h3,h4]
   ·simp[h1,h2,h3]
  ·simp[h1,h2]
 ·simp[h1]
def IdxP (i:Int) (l:List Fd.En) (x:Fd.En):Prop:=decide (0≤i)=l.contains x
theorem j7h (l:List Fd.En) (x:Fd.En) (v:Value) (K:Nat→Prop) (w:World) (hv:z18 w K v l) (hK:∀ b,K b→b < w.heap.size) (hl:l.length≤33554432) :
  Calls prog 145 #[v,enAg x] w fun e w'=>Below w.heap.size w w'∧∃ i:Int,e=.returned (.int .i64 i)∧IdxP i l x:=by
 obtain⟨ao,cap,hv1,hvm,hvc⟩:=hv.get;subst hv1;have HV:=Ld hvc;have HK:=Ld hK;have AL:=Ld ((Below.refl w.heap.size w).alloc (Lr) (.cells #[.string (st x.id),.string (st x.ti),.string (st x.li),.int .i64 x.at_,.string (st x.ht)] 44));have XB:=Ld (Blk.new w 44 #[.string (st x.id),.string (st x.ti),.string (st x.li),.int .i64 x.at_,.string (st x.ht)]);clear hvc hv hvm hK;unfold enAg;go_enter func145,ntmps145;go_upto_region 1 with fail;obtain⟨X,hX⟩:∃ X,X=w.heap.size:=⟨_,rfl⟩;rw[← hX] at XB;rw[← hX];generalize w.alloc (.cells #[.string (st x.id),.string (st x.ti),.string (st x.li),.int .i64 x.at_,.string (st x.ht)] 44)=w1 at AL XB ⊢;clear hX;go_wp2_with fail
 go_loopw [8] (fun i wr=>∃ k:Nat,k≤l.length∧i=.int .i64 k∧Hid (l.contains x=(l.drop k).contains x)∧Hid (Below w.heap.size w wr)∧Hid (Blk wr X 44 #[.string (st x.id),.string (st x.ti),.string (st x.li),.int .i64 x.at_,.string (st x.ht)])) (fun i _=>l.length - (intOf i).toNat)
 case atStart=>exact⟨0,Nat.zero_le _,rfl,rfl,AL,XB⟩
 case round =>
  obtain⟨k,hk,rfl,HA,BL,XW⟩:=hrel
  by_cases hlt:k < l.length
  ·obtain⟨g,o,rfl,hKg,c0,c1,c2,c3,c4⟩:=HV.out k hlt
   rw[← BL.out.cell (p:=⟨g,_,none⟩) (HK.out g hKg)] at c0 c1 c2 c3 c4;have HD:Hid (l.contains x=((l[k] == x) || (l.drop (k + 1)).contains x)):=by
    show _=_;rw[HA.out,List.drop_eq_getElem_cons hlt,List.contains_cons]
    congr 1
    rw[Bool.eq_iff_iff,beq_iff_eq,beq_iff_eq];exact eq_comm
   generalize l[k]=y at c0 c1 c2 c3 c4 HD;have x0:wr.cell? ⟨X,0,none⟩=some (.string (st x.id)):=Blk.cell XW.out 0;have x1:wr.cell? ⟨X,1,none⟩=some (.string (st x.ti)):=Blk.cell XW.out 1;have x2:wr.cell? ⟨X,2,none⟩=some (.string (st x.li)):=Blk.cell XW.out 2;have x3:wr.cell? ⟨X,3,none⟩=some (.int .i64 x.at_):=Blk.cell XW.out 3;have x4:wr.cell? ⟨X,4,none⟩=some (.string (st x.ht)):=Blk.cell XW.out 4;have hki:(k:Int) < l.length:=by omega
   have heq:=fun W=>q8t x y W
   have hgd:=fun U V W=>run_eqGuard_agg (P:=prog) W .eql 44 U V #[.string (st x.id),.string (st x.ti),.string (st x.li),.int .i64 x.at_,.string (st x.ht)] #[.string (st y.id),.string (st y.ti),.string (st y.li),.int .i64 y.at_,.string (st y.ht)] Tryz.guardEnt
   by_cases hxy:x=y
   ·have hdx:decide (x=y)=true:=decide_eq_true hxy
    rw[hdx] at heq;have HE:Hid (l.contains x=true):=by show _=_;rw[HD.out,hxy];simp
    clear hxy hdx HA HD;go_upto_region 4 with fail
    go_region
    all_goals
     go_wp2_with fail;go_ret;exact⟨BL.out.drew,k,rfl,by unfold IdxP;rw[HE.out];exact decide_eq_true (by omega)⟩
   ·have hdx:decide (x=y)=false:=decide_eq_false hxy
    rw[hdx] at heq;have HE:Hid (l.contains x=(l.drop (k + 1)).contains x):=by show _=_;rw[HD.out,beq_eq_false_iff_ne.2 (fun e=>hxy e.symm),Bool.false_or]
    clear hxy hdx HA HD;go_upto_region 4 with fail
    go_region
    all_goals
     go_wp2_with fail;go_roundw
     case rel=>exact⟨k + 1,by omega,by go_num,HE,BL.out.drew,XW⟩
     case measure=>simp[intOf];omega
  ·have HE:Hid (l.contains x=false):=by show _=_;rw[HA.out,List.drop_of_length_le (by omega)];rfl
   have hki:¬ (k:Int) < l.length:=by omega
   clear HA;go_wp2_with fail;go_ret;exact⟨BL.out,-1,rfl,by unfold IdxP;rw[HE.out];rfl⟩
theorem q72 (l:List Fd.En) (x:Fd.En) (v:Value) (K:Nat→Prop) (w:World) (hv:z18 w K v l) (hK:∀ b,K b→b < w.heap.size) (hl:l.length≤33554432) :
  Calls prog 85 #[v,enAg x] w fun e w'=>e=.returned (.bool (l.contains x))∧Below w.heap.size w w':=by
 have hal:=(Below.refl w.heap.size w).alloc (Lr) (.cells #[.string (st x.id),.string (st x.ti),.string (st x.li),.int .i64 x.at_,.string (st x.ht)] 44);have AL:=Ld hal;have HI:=Ld (j7h l x v K _ (hv.below hK hal) (fun b q=>Nat.lt_of_lt_of_le (hK b q) hal.size) hl);have XB:=Blk.new w 44 #[.string (st x.id),.string (st x.ti),.string (st x.li),.int .i64 x.at_,.string (st x.ht)];have x0:(w.alloc (.cells #[.string (st x.id),.string (st x.ti),.string (st x.li),.int .i64 x.at_,.string (st x.ht)] 44)).cell? ⟨w.heap.size,0,none⟩=some (.string (st x.id)):=Blk.cell XB 0;have x1:(w.alloc (.cells #[.string (st x.id),.string (st x.ti),.string (st x.li),.int .i64 x.at_,.string (st x.ht)] 44)).cell? ⟨w.heap.size,1,none⟩=some (.string (st x.ti)):=Blk.cell XB 1;have x2:(w.alloc (.cells #[.string (st x.id),.string (st x.ti),.string (st x.li),.int .i64 x.at_,.string (st x.ht)] 44)).cell? ⟨w.heap.size,2,none⟩=some (.string (st x.li)):=Blk.cell XB 2;have x3:(w.alloc (.cells #[.string (st x.id),.string (st x.ti),.string (st x.li),.int .i64 x.at_,.string (st x.ht)] 44)).cell? ⟨w.heap.size,3,none⟩=some (.int .i64 x.at_):=Blk.cell XB 3;have x4:(w.alloc (.cells #[.string (st x.id),.string (st x.ti),.string (st x.li),.int .i64 x.at_,.string (st x.ht)] 44)).cell? ⟨w.heap.size,4,none⟩=some (.string (st x.ht)):=Blk.cell XB 4;clear hal XB hv hK;unfold enAg at HI ⊢;go_enter func85,ntmps85;go_wp2_with fail;refine HI.out.mono ?_;rintro e w2 ⟨hb2,i,rfl,hi⟩;have B2:=Ld (AL.out.trans (hb2.mono AL.out.size));have HR:=Ld hi;clear hb2 hi HI;go_wp2_with fail;go_ret;exact⟨Z8 HR.out,B2.out⟩
end Go.Proofs.YtjonkbdldebkiaaGreatDoor
namespace Fd
theorem putE_len (l:List En) (x:En):(putE l x).length≤l.length + 1:=by
 unfold putE
 cases hf:l.find? (fun y=>y.id == x.id) with
 | none=>rw[q4m];exact Lr
 | some y =>
  simp only
  split
  ·omega
  ·rw[q4m]
   have:=(List.eraseP_sublist (p:=fun y=>y.id == x.id) (l:=l)).length_le;omega
theorem newE_le (l m:List En):0≤newE l m∧newE l m≤l.length:=by
 unfold newE;have:=List.length_filter_le (fun x=>!m.contains x) l;omega
theorem j6i (l m:List En) (x:En):newE (l++[x]) m=newE l m + if m.contains x then 0 else 1:=by
 unfold newE;rw[List.filter_append,List.length_append]
 cases h:m.contains x
 ·rw[List.filter_cons_of_pos (by rw[h];rfl)];simp
 ·rw[List.filter_cons_of_neg (by rw[h];decide)];simp
theorem z6z:∀ (xs l:List En),(xs.foldl putE l).length≤l.length + xs.length
 | [],l=>Lr
 | x :: r,l=>by
  have h1:=z6z r (putE l x);have h2:=putE_len l x;rw[List.foldl_cons,List.length_cons];omega
end Fd
namespace Go.Proofs.YtjonkbdldebkiaaGreatDoor
open Go.Proofs.Tryz Go.RowKit
theorem Blk.call {W W':World} {q:Nat} {T:TypeId} {cs:Array Value} (h:Blk W q T cs) (hb:Below W.heap.size W W'):Blk W' q T cs:=Blk.below h hb h.lt
def ShV (w:World) (K:Nat→Prop) (ve vr:Value) (s:Fd.Sh):Prop:=z18 w K ve s.es∧z0n w K vr s.rd
theorem ShV.below {w w':World} {K:Nat→Prop} {ve vr:Value} {s:Fd.Sh} {B:Nat} (h:ShV w K ve vr s) (hK:∀ b,K b→b < B) (hb:Below B w w'):ShV w' K ve vr s:=⟨h.1.below hK hb,h.2.below hK hb⟩
theorem ShV.emp (w:World) (K:Nat→Prop):ShV w K (.slice none 0 0) (.slice none 0 0) Fd.Sh.none:=⟨z18.nil _ _,z0n.nil _ _⟩
theorem z4s {w:World} {K:Nat→Prop} {ao:Option Addr} {n cap:Nat} {l:List Fd.En} (h:z18 w K (.slice ao n cap) l) (k:Nat) (hk:k < l.length):∃ g o,ao=some ⟨g,o,none⟩∧K g∧w.cell? ⟨g,o + k * 5,none⟩=some (.string (st l[k].id))∧w.cell? ⟨g,o + k * 5 + 1,none⟩=some (.string (st l[k].ti))∧w.cell? ⟨g,o + k * 5 + 2,none⟩=some (.string (st l[k].li))∧w.cell? ⟨g,o + k * 5 + 3,none⟩=some (.int .i64 l[k].at_)∧w.cell? ⟨g,o + k * 5 + 4,none⟩=some (.string (st l[k].ht)):=by
 obtain⟨ao',cap',h1,_,h2⟩:=h.get;injection h1 with e1 _ _;subst e1;exact h2 k hk
theorem sh_Put (s:Fd.Sh) (l:List Fd.En) (ve vr vl:Value) (K:Nat→Prop) (w:World) (hg:Gl w) (hv:ShV w K ve vr s) (hvl:z18 w K vl l) (hK:∀ b,K b→b < w.heap.size) (hs:Fd.z0e s=0) (hl:l.length≤12) (hx:∀ x ∈ l,Fd.z03 x=0) :
  Calls prog 39 #[.agg #[ve,vr],vl] w fun e w'=>Below w.heap.size w w'∧∃ ue ur,e=.returned (.tuple #[.agg #[ue,ur],.int .i64 (Fd.newE (Fd.z7i s.es l) s.es),.int .i64 0])∧ShV w' (fun b=>w.heap.size≤b∧b < w'.heap.size) ue ur ⟨Fd.z7i s.es l,s.rd⟩:=by
 have hlt:=hg.lt;have hr:=(Fd.z01 s).1 hs;obtain⟨aoe,cape,rfl,_⟩:=id hv.1;obtain⟨aor,capr,rfl,_⟩:=id hv.2;obtain⟨aol,capl,rfl,_⟩:=id hvl;have HG:=Ld hg;have HK:=Ld hK;have HV:=Ld hv;have HVL:=Ld hvl;have HX:=Ld hx;have HR:=Ld hr;have hes:s.es.length≤20:=hr.1;have hrd:s.rd.length≤40:=hr.2.1;have AL1:=(Below.refl w.heap.size w).alloc (Lr) (.cells #[.slice aoe s.es.length cape,.slice aor s.rd.length capr] 26);have AL2:=AL1.alloc AL1.size (.cells #[.slice none 0 0,.slice none 0 0] 26);have XB:=Ld (Blk.alloc (Blk.new w 26 #[.slice aoe s.es.length cape,.slice aor s.rd.length capr]) (.cells #[.slice none 0 0,.slice none 0 0] 26));have RB:Hid (Blk ((w.alloc (.cells #[.slice aoe s.es.length cape,.slice aor s.rd.length capr] 26)).alloc (.cells #[.slice none 0 0,.slice none 0 0] 26)) (w.heap.size + 1) 26 #[.slice none 0 0,.slice none 0 0]):=by
  have:=Blk.new (w.alloc (.cells #[.slice aoe s.es.length cape,.slice aor s.rd.length capr] 26)) 26 #[.slice none 0 0,.slice none 0 0];simp only [World.size_alloc] at this;exact this
 have B1:=Ld AL2;clear AL1 AL2 hg hv hvl hK hx hr hs;go_enter func39,ntmps39;go_upto_region 1 with fail;obtain⟨X,hX⟩:∃ X,X=w.heap.size:=⟨_,rfl⟩;rw[← hX] at XB RB;rw[← hX];have hXw:w.heap.size≤X:=by omega
 generalize (w.alloc (.cells #[.slice aoe s.es.length cape,.slice aor s.rd.length capr] 26)).alloc (.cells #[.slice none 0 0,.slice none 0 0] 26)=w1 at B1 XB RB ⊢;clear hX;have x0:w1.cell? ⟨X,0,none⟩=some (.slice aoe s.es.length cape):=Blk.cell XB.out 0;have x1:w1.cell? ⟨X,1,none⟩=some (.slice aor s.rd.length capr):=Blk.cell XB.out 1;have HCK:=z4h s _ _ K w1 (HG.out.below B1.out hlt) (HV.out.1.below HK.out B1.out) (HV.out.2.below HK.out B1.out) (fun b q=>Nat.lt_of_lt_of_le (HK.out b q) B1.out.size) (fun x hx=>by have:=(Fd.q21 (HR.out.2.2.1.1 x hx)).2;omega);rw[(Fd.z01 s).2 HR.out] at HCK;have HCK:=Ld HCK;go_wp2_with fail;refine HCK.out.mono ?_;rintro e w2 ⟨rfl,hb2⟩;have B2:=Ld (B1.out.trans (hb2.mono B1.out.size));have XB2:=Ld (Blk.call XB.out hb2);have RB2:=Ld (Blk.call RB.out hb2);clear hb2 HCK x0 x1 B1 XB RB;have hl12:¬ (12:Int) < l.length:=by omega
 go_upto_block 0 with fail
 go_cut [7] (fun e wz=>e=.int .i64 0∧Hid (Below w.heap.size w wz)∧Hid (Blk wz X 26 #[.slice aoe s.es.length cape,.slice aor s.rd.length capr])∧Hid (Blk wz (X + 1) 26 #[.slice none 0 0,.slice none 0 0]))
 case first =>
  as_aux_lemma =>
  go_wp2_with fail
  go_loopw [8,7] (fun i e wr=>∃ k:Nat,k≤l.length∧i=.int .i64 k∧e=.int .i64 0∧Hid (Below w.heap.size w wr)∧Hid (Blk wr X 26 #[.slice aoe s.es.length cape,.slice aor s.rd.length capr])∧Hid (Blk wr (X + 1) 26 #[.slice none 0 0,.slice none 0 0])) (fun i _ _=>l.length - (intOf i).toNat)
  case atStart=>exact⟨0,Nat.zero_le _,rfl,rfl,B2,XB2,RB2⟩
  case round =>
   obtain⟨k,hk,rfl,rfl,BR,XR,RR⟩:=hrel
   by_cases hlt2:k < l.length
   ·obtain⟨g,o,rfl,hKg,c0,c1,c2,c3,c4⟩:=z4s (HVL.out.below HK.out BR.out) k hlt2
    have hck:=q4j l[k] wr (HG.out.below BR.out hlt);rw[HX.out l[k] (List.getElem_mem hlt2)] at hck;generalize l[k]=y at c0 c1 c2 c3 c4 hck;have HCK:=Ld hck;have hki:(k:Int) < l.length:=by omega
    clear hck;go_wp2_with fail;refine HCK.out.mono ?_;rintro e w3 ⟨rfl,hb3⟩;have B3:=Ld (BR.out.trans (hb3.mono BR.out.size));have X3:=Ld (Blk.call XR.out hb3);have R3:=Ld (Blk.call RR.out hb3);clear hb3 HCK c0 c1 c2 c3 c4;go_wp2_with fail;go_roundw
    case rel=>exact⟨k + 1,by omega,by go_num,rfl,B3,X3,R3⟩
    case measure=>simp[intOf];omega
   ·have hki:¬ (k:Int) < l.length:=by omega
    go_wp2_with fail;go_meet
    case rel=>exact⟨rfl,BR,XR,RR⟩
 case rest =>
 obtain⟨rfl,B3,X3,R3⟩:=hcut;obtain⟨w3,hw3⟩:∃ z,z=wc:=⟨_,rfl⟩;subst hw3;clear B2 XB2 RB2 hl12;have x0:w3.cell? ⟨X,0,none⟩=some (.slice aoe s.es.length cape):=Blk.cell X3.out 0;have x1:w3.cell? ⟨X,1,none⟩=some (.slice aor s.rd.length capr):=Blk.cell X3.out 1;have HOW:=Ld (j06 s.es s.rd _ _ K w3 (HV.out.1.below HK.out B3.out) (HV.out.2.below HK.out B3.out) (fun b q=>Nat.lt_of_lt_of_le (HK.out b q) B3.out.size) (by omega) (by omega));go_wp2_with fail;refine HOW.out.mono ?_;rintro e w4 ⟨M,ue,ur,rfl,hk4⟩;have K4:=Ld hk4;clear hk4 HOW x0 x1
 go_upto_block 2 with fail
 go_cut [] (fun wz=>∃ ue2,Hid (KpI w3 wz M ue2 ur (l.foldl Fd.putE s.es) s.rd))
 case first =>
  as_aux_lemma =>
  go_wp2_with fail
  go_loopw [47] (fun i wr=>∃ (k:Nat) (ue2:Value),k≤l.length∧i=.int .i64 k∧Hid (KpI w3 wr M ue2 ur ((l.take k).foldl Fd.putE s.es) s.rd)) (fun i _=>l.length - (intOf i).toNat)
  case atStart=>exact⟨0,ue,Nat.zero_le _,rfl,K4⟩
  case round =>
   obtain⟨k,ue2,hk,rfl,KR⟩:=hrel
   by_cases hlt2:k < l.length
   ·obtain⟨g,o,rfl,hKg,c0,c1,c2,c3,c4⟩:=z4s (HVL.out.below HK.out (B3.out.trans (KR.out.be.mono B3.out.size))) k hlt2
    have HTK:Hid ((l.take (k + 1)).foldl Fd.putE s.es=Fd.putE ((l.take k).foldl Fd.putE s.es) l[k]):=by show _=_;rw[List.take_succ_eq_append_getElem hlt2,List.foldl_append];rfl
    have hfr:=Fd.z7x (l.take k) s.es HR.out.2.2.1 (fun x hx=>HX.out x (List.mem_of_mem_take hx));have hfl:=Fd.z6z (l.take k) s.es;rw[List.length_take] at hfl;have hckx:=HX.out l[k] (List.getElem_mem hlt2);generalize l[k]=y at c0 c1 c2 c3 c4 HTK hckx;have hki:(k:Int) < l.length:=by omega
    have hal:=(Below.refl wr.heap.size wr).alloc (Lr) (.cells #[.string (st y.id),.string (st y.ti),.string (st y.li),.int .i64 y.at_,.string (st y.ht)] 44);have YB:=Blk.new wr 44 #[.string (st y.id),.string (st y.ti),.string (st y.li),.int .i64 y.at_,.string (st y.ht)];have hp:=kp_put (KR.out.below hal) y hckx hfr (by omega);unfold enAg at hp;have HP:=Ld hp;have y0:(wr.alloc (.cells #[.string (st y.id),.string (st y.ti),.string (st y.li),.int .i64 y.at_,.string (st y.ht)] 44)).cell? ⟨wr.heap.size,0,none⟩=some (.string (st y.id)):=Blk.cell YB 0;clear hp hal YB hfr hfl hckx y0;go_wp2_with fail;refine HP.out.mono ?_;rintro e w5 ⟨rfl,ue5,hk5⟩;have K5:=Ld hk5;clear hk5 HP c0 c1 c2 c3 c4;go_wp2_with fail;go_roundw
    case rel=>exact⟨k + 1,ue5,by omega,by go_num,by show KpI _ _ _ _ _ _ _;rw[HTK.out];exact K5.out⟩
    case measure=>simp[intOf];omega
   ·have hki:¬ (k:Int) < l.length:=by omega
    have hke:Hid (KpI w3 wr M ue2 ur (l.foldl Fd.putE s.es) s.rd):=by
     have h:=KR.out;rw[List.take_of_length_le (by omega)] at h;exact h
    clear KR;go_wp2_with fail;go_meet
    case rel=>exact⟨ue2,hke⟩
 case rest =>
 obtain⟨ue2,K5⟩:=hcut;obtain⟨w5,hw5⟩:∃ z,z=wc:=⟨_,rfl⟩;subst hw5;clear K4;have hfl:=Fd.z6z l s.es;obtain⟨ao5,cap5,hu5⟩:=Z9 K5.out.oe;subst hu5;obtain⟨fo,hfo⟩:∃ fo,l.foldl Fd.putE s.es=fo:=⟨_,rfl⟩;have HFO:Hid (Fd.z7i s.es l=fo.take 20):=by show _=_;unfold Fd.z7i;rw[hfo]
 rw[hfo] at K5 hfl;clear hfo;obtain⟨m,hm⟩:∃ m,m=min fo.length 20:=⟨_,rfl⟩;have hmi:min (fo.length:Int) 20=(m:Int):=by omega
 have hm1:m≤fo.length:=by omega
 have hm2:m≤20:=by omega
 have hmc:m≤cap5:=by
  rcases K5.out.oe.2 with ⟨hv,h0⟩ | ⟨g,cap',cur,hv,_,_,hn,_⟩
  ·omega
  ·injection hv with _ _ e;omega
 have HM:Hid (fo.take 20=fo.take m):=by
  show _=_;rw[hm]
  rcases Nat.le_total fo.length 20 with q | q
  ·rw[Nat.min_eq_left q,List.take_of_length_le q,List.take_length]
  ·rw[Nat.min_eq_right q]
 have HTL:Hid ((fo.take m).length=m):=by show _=_;rw[List.length_take];omega
 clear hm;have m0:w5.cell? ⟨M,0,none⟩=some (.slice ao5 fo.length cap5):=Blk.cell K5.out.mb 0;have f0:=Blk.frozen K5.out.mb 0;have K6:=Ld (show KpI w3 ((w5.setCell ⟨M,0,none⟩ (.slice ao5 m cap5)).drew) M (.slice ao5 m cap5) ur (fo.take m) s.rd from by
  refine KpI.drew (K5.out.setE (Ap.refl _ _) ?_ (fun g q=>.inl (by cases ao5 with | none=>exact q | some a=>exact q)));rw[HTL.out]
  rcases K5.out.oe.2 with ⟨hv,h0⟩ | ⟨g,cap',cur,hv,_,_,hn,_⟩
  ·injection hv with e1 e2 e3
   subst e1;subst e3;have h0:m=0:=by omega
   subst h0;exact World.ownsRow_nil _ _ _ _
  ·injection hv with e1 e2 e3
   subst e1;subst e3;have h:=q4u K5.out.oe hm1;rw[z3d] at h;exact h)
 go_upto_region 16 with fail
 go_region
 obtain⟨aou,capu,hur⟩:=Z9 K5.out.or;subst hur;clear K5 m0 f0 hm1 hmc hmi hfl;generalize (w5.setCell ⟨M,0,none⟩ (.slice ao5 m cap5)).drew=w6 at K6 ⊢;have HPE:Hid (Fd.z7i s.es l=fo.take m):=HFO.out.trans HM.out;obtain⟨fm,hfm⟩:∃ fm,fo.take m=fm:=⟨_,rfl⟩;rw[hfm] at K6 HTL HPE;clear hfm HFO HM;have m0:w6.cell? ⟨M,0,none⟩=some (.slice ao5 m cap5):=Blk.cell K6.out.mb 0
 go_upto_block 4 with fail
 go_cut [12] (fun n wz=>n=.int .i64 (Fd.newE fm s.es)∧Hid (KpI w3 wz M (.slice ao5 m cap5) (.slice aou s.rd.length capu) fm s.rd))
 case first =>
  as_aux_lemma =>
  go_wp2_with fail
  go_loopw [78,12] (fun i n wr=>∃ k:Nat,k≤m∧i=.int .i64 k∧n=.int .i64 (Fd.newE (fm.take k) s.es)∧Hid (KpI w3 wr M (.slice ao5 m cap5) (.slice aou s.rd.length capu) fm s.rd)) (fun i _ _=>m - (intOf i).toNat)
  case atStart=>exact⟨0,Nat.zero_le _,rfl,rfl,K6⟩
  case round =>
   obtain⟨k,hk,rfl,rfl,KR⟩:=hrel
   by_cases hlt2:k < m
   ·have hkf:k < fm.length:=by have:=HTL.out;omega
    obtain⟨g,o,rfl,hKg,c0,c1,c2,c3,c4⟩:=z4s KR.out.ents k hkf;have HTK:Hid (Fd.newE (fm.take (k + 1)) s.es=Fd.newE (fm.take k) s.es + if s.es.contains fm[k] then 0 else 1):=by show _=_;rw[List.take_succ_eq_append_getElem hkf,Fd.j6i]
    have hnl:=Fd.newE_le (fm.take k) s.es;rw[List.length_take] at hnl;have hal:=(Below.refl wr.heap.size wr).alloc (Lr) (.cells #[.string (st fm[k].id),.string (st fm[k].ti),.string (st fm[k].li),.int .i64 fm[k].at_,.string (st fm[k].ht)] 44);have BA:=Ld (B3.out.trans ((KR.out.be.trans (hal.mono KR.out.be.size)).mono B3.out.size));have KA:=Ld (KR.out.below hal);have hcn:=q72 s.es fm[k] _ K (wr.alloc (.cells #[.string (st fm[k].id),.string (st fm[k].ti),.string (st fm[k].li),.int .i64 fm[k].at_,.string (st fm[k].ht)] 44)) (HV.out.1.below HK.out BA.out) (fun b q=>Nat.lt_of_lt_of_le (HK.out b q) BA.out.size) (by omega);have YB:=Ld (Blk.new wr 44 #[.string (st fm[k].id),.string (st fm[k].ti),.string (st fm[k].li),.int .i64 fm[k].at_,.string (st fm[k].ht)]);have XA:=Ld (Blk.below X3.out KA.out.be X3.out.lt);unfold enAg at hcn;generalize fm[k]=y at c0 c1 c2 c3 c4 HTK hcn BA KA YB XA;have HCN:=Ld hcn;have hki:(k:Int) < m:=by omega
    clear hcn hal;go_upto_region 21 with fail;generalize wr.alloc (.cells #[.string (st y.id),.string (st y.ti),.string (st y.li),.int .i64 y.at_,.string (st y.ht)] 44)=wa at BA KA YB XA HCN ⊢;have x0:wa.cell? ⟨X,0,none⟩=some (.slice aoe s.es.length cape):=Blk.cell XA.out 0;have y0:wa.cell? ⟨wr.heap.size,0,none⟩=some (.string (st y.id)):=Blk.cell YB.out 0;have y1:wa.cell? ⟨wr.heap.size,1,none⟩=some (.string (st y.ti)):=Blk.cell YB.out 1;have y2:wa.cell? ⟨wr.heap.size,2,none⟩=some (.string (st y.li)):=Blk.cell YB.out 2;have y3:wa.cell? ⟨wr.heap.size,3,none⟩=some (.int .i64 y.at_):=Blk.cell YB.out 3;have y4:wa.cell? ⟨wr.heap.size,4,none⟩=some (.string (st y.ht)):=Blk.cell YB.out 4;clear c0 c1 c2 c3 c4;obtain⟨bb,hbb⟩:∃ bb,s.es.contains y=bb:=⟨_,rfl⟩;rw[hbb] at HCN HTK;clear hbb;go_wp2_with fail;refine HCN.out.mono ?_;rintro e w7 ⟨rfl,hb7⟩;have K7:=Ld (KA.out.below hb7);clear hb7 HCN x0 y0 y1 y2 y3 y4;have hw1:IntKind.i64.wrap (Fd.newE (fm.take k) s.es + 1)=Fd.newE (fm.take k) s.es + 1:=by rw[IntKind.wrap_i64];omega
    cases bb with
    | true =>
     have HN:Hid (Fd.newE (fm.take (k + 1)) s.es=Fd.newE (fm.take k) s.es):=by show _=_;rw[HTK.out];simp
     clear HTK hw1;go_wp2_with fail;go_roundw
     case rel=>exact⟨k + 1,by omega,by go_num,by rw[HN.out],K7⟩
     case measure=>simp[intOf];omega
    | false =>
     have HN:Hid (Fd.newE (fm.take (k + 1)) s.es=Fd.newE (fm.take k) s.es + 1):=by show _=_;rw[HTK.out];simp
     clear HTK;go_wp2_with fail;go_roundw
     case rel=>exact⟨k + 1,by omega,by go_num,by rw[HN.out],K7⟩
     case measure=>simp[intOf];omega
   ·have hki:¬ (k:Int) < m:=by omega
    have HE:Hid (fm.take k=fm):=by show _=_;exact List.take_of_length_le (by have:=HTL.out;omega)
    go_wp2_with fail;go_meet
    case rel=>exact⟨by rw[HE.out],KR⟩
 case rest =>
 obtain⟨rfl,K7⟩:=hcut;obtain⟨w7,hw7⟩:∃ z,z=wc:=⟨_,rfl⟩;subst hw7;have HPE2:=HPE.out;have B7:=Ld (B3.out.trans (K7.out.be.mono B3.out.size));have R7:=Ld (Blk.below R3.out K7.out.be R3.out.lt);have KK:=Ld (show ShV w7 (fun b=>w.heap.size≤b∧b < w7.heap.size∧b ≠ X + 1) (.slice ao5 m cap5) (.slice aou s.rd.length capu) ⟨fm,s.rd⟩ from by
  have hsz:=B3.out.size;have hR:=R3.out.lt;constructor
  ·obtain⟨ao,cap,h1,h2,h3⟩:=z19.of_own (K:=fun b=>w.heap.size≤b∧b < w7.heap.size∧b ≠ X + 1) K7.out.oe (fun g q=>by have:=K7.out.oe.lt g q;omega)
   exact⟨ao,cap,h1,h2,h3⟩
  ·exact z0n.of_own K7.out.or (fun g q=>by have:=K7.out.or.lt g q;omega))
 clear HPE2 K6 m0;have m0:w7.cell? ⟨M,0,none⟩=some (.slice ao5 m cap5):=Blk.cell K7.out.mb 0;have m1:w7.cell? ⟨M,1,none⟩=some (.slice aou s.rd.length capu):=Blk.cell K7.out.mb 1;have r0:w7.cell? ⟨X + 1,0,none⟩=some (.slice none 0 0):=Blk.cell R7.out 0;have r1:w7.cell? ⟨X + 1,1,none⟩=some (.slice none 0 0):=Blk.cell R7.out 1;have f0:=Blk.frozen R7.out 0;have f1:=Blk.frozen R7.out 1;clear K7;go_wp2_with fail;refine bodyPost_ret (v:=.tuple #[.agg #[.slice ao5 m cap5,.slice aou s.rd.length capu],.int .i64 (Fd.newE fm s.es),.int .i64 0]) (by simp[results,results39,go_sem, *]) rfl ?_;refine⟨(B7.out.setCell (p:=⟨X + 1,0,none⟩) (by show _≤X + 1;omega) _).setCell (p:=⟨X + 1,1,none⟩) (by show _≤X + 1;omega) _,_,_,by rw[HPE.out],?_⟩;rw[HPE.out];have hfr:∀ b,(w.heap.size≤b∧b < w7.heap.size∧b ≠ X + 1)→(w.heap.size≤b∧b < ((w7.setCell ⟨X + 1,0,none⟩ (.slice ao5 m cap5)).setCell ⟨X + 1,1,none⟩ (.slice aou s.rd.length capu)).heap.size)∧((w7.setCell ⟨X + 1,0,none⟩ (.slice ao5 m cap5)).setCell ⟨X + 1,1,none⟩ (.slice aou s.rd.length capu)).heap[b]? = w7.heap[b]?:=by
  rintro b ⟨q1,q2,q3⟩;refine⟨⟨q1,by simpa [World.setCell] using q2⟩,?_⟩;rw[Below.heap_setCell _ ⟨X + 1,1,none⟩ _ b q3,Below.heap_setCell _ ⟨X + 1,0,none⟩ _ b q3]
 exact⟨KK.out.1.frame hfr,KK.out.2.frame hfr⟩
end Go.Proofs.YtjonkbdldebkiaaGreatDoor
namespace Fd
theorem q9b (l:List Bs) (x:Bs) (h:l.Pairwise (fun a b=>cmpB a b < 0)) (a b:Nat) (hab:a≤b) (hb:b < l.length) (hlt:cmpB l[b] x < 0):cmpB (l[a]'(by omega)) x < 0:=by
 rcases Nat.lt_or_ge a b with q | q
 ·exact z4r _ _ _ (List.pairwise_iff_getElem.1 h a b (by omega) hb q) hlt
 ·have:a=b:=by omega
  subst this;exact hlt
end Fd
namespace Go.Proofs.YtjonkbdldebkiaaGreatDoor
open Go.Proofs.Tryz Go.RowKit
theorem j4w (x:List UInt8) (w:World):Calls prog 199 #[.string (st x)] w fun e w'=>e=.returned (.bool false)∧w'=w:=by
 go_enter func199,ntmps199;go_wp2_with fail;go_ret;exact⟨by simp,rfl⟩
theorem q74 (x:List UInt8) (w:World):Calls prog 149 #[.string (st x)] w fun e w'=>e=.returned (.bool false)∧w'=w:=by
 go_enter func149,ntmps149;go_wp2_with fail;go_ret;exact⟨by simp,rfl⟩
theorem cmp_Less (x y:List UInt8) (w:World):Calls prog 148 #[.string (st x),.string (st y)] w fun e w'=>e=.returned (.bool (decide (Fd.cmpB x y < 0)))∧w'=w:=by
 have hst:∀ l:List UInt8,(st l).toList=l:=fun l=>Lib.toList_data _
 have hb:=Fd.q88 x y;have HB:=Ld hb;clear hb;go_enter func148,ntmps148;go_wp2_with fail;refine(j4w x w).mono ?_;rintro e wx ⟨rfl,hwx⟩;subst wx;go_wp2_with fail;go_ret;exact⟨Z8 (by rw[← HB.out]),rfl⟩
theorem q3i (l:List (List UInt8)) (x:List UInt8) (hs:l.Pairwise (fun a b=>Fd.cmpB a b < 0)) (hl:l.length≤1000) (v:Value) (K:Nat→Prop) (w:World) (hv:z0n w K v l) :
  Calls prog 87 #[v,.string (st x)] w fun e w'=>w'=w∧∃ k:Nat,e=.returned (.tuple #[.int .i64 k,.bool (decide (x ∈ l))])∧k≤l.length∧(∀ y ∈ l.take k,Fd.cmpB y x < 0)∧(∀ y ∈ l.drop k,0≤Fd.cmpB y x):=by
 have hst:∀ l:List UInt8,(st l).toList=l:=fun l=>Lib.toList_data _
 obtain⟨ao,cap,hv1,hlc,hcm,hor⟩:=hv.at_
 subst hv1;have HOR:=Ld hor;have HS:=Ld hs;have HNX:Hid (∀ k (hk:k < l.length),∃ g o,ao=some ⟨g,o,none⟩∧w.cell? ⟨g,o + k,none⟩=some (.string (st l[k]))):=by
  intro k hk
  rcases HOR.out with q | ⟨g,o,q1,_,q2⟩
  ·subst q;exact absurd hk (Nat.not_lt_zero _)
  ·exact⟨g,o,q1,q2 k hk⟩
 obtain⟨bm,hbm⟩:∃ bm,decide (x ∈ l)=bm:=⟨_,rfl⟩;have HBM:=Ld hbm;rw[hbm];clear hor hs hv hcm HOR hbm;go_enter func87,ntmps87;go_wp2_with fail
 go_loopw [7,8] (fun s9 s10 wr=>∃ lo hi:Nat,s9=.int .i64 lo∧s10=.int .i64 hi∧lo≤hi∧hi≤l.length∧Hid (∀ y ∈ l.take lo,Fd.cmpB y x < 0)∧Hid (∀ y ∈ l.drop hi,0≤Fd.cmpB y x)∧Hid (w=wr)) (fun s9 s10 _=>(intOf s10).toNat - (intOf s9).toNat)
 case atStart=>exact⟨0,l.length,rfl,rfl,Nat.zero_le _,Lr,(fun y hy=>by simp at hy),(fun y hy=>by rw[List.drop_length] at hy;cases hy),rfl⟩
 case round =>
  obtain⟨lo,hi,rfl,rfl,hlh,hin,HLO,HHI,HW⟩:=hrel;have hw:=HW.out;clear HW;subst hw
  by_cases hlt:lo < hi
  ·obtain⟨m,hm⟩:∃ m,m=(lo + hi) / 2:=⟨_,rfl⟩
   have hmi:((lo:Int) + (hi:Int)) / 2=(m:Int):=by omega
   have hm1:lo≤m:=by omega
   have hm2:m < hi:=by omega
   have hmn:m < l.length:=by omega
   clear hm;obtain⟨g,o,hao,c0⟩:=HNX.out m hmn;subst hao;have HO:=Ld (cmp_Less l[m] x w);obtain⟨y,hy⟩:∃ y,l[m]=y:=⟨_,rfl⟩;rw[hy] at c0 HO;have HYM:=Ld hy;clear hy;have hml:(m:Int) < l.length:=by omega
   have hm0:(0:Int)≤m:=by omega
   go_wp2_with fail;refine HO.out.mono ?_;rintro e wx ⟨rfl,hwx⟩;subst wx
   by_cases hd0:Fd.cmpB y x < 0
   ·have hdt:decide (Fd.cmpB y x < 0)=true:=decide_eq_true hd0
    have H1:Hid (∀ y ∈ l.take (m + 1),Fd.cmpB y x < 0):=by
     intro z hz;obtain⟨t,ht,rfl⟩:=List.mem_iff_getElem.1 hz;rw[List.length_take] at ht;rw[List.getElem_take];exact Fd.q9b l x HS.out t m (by omega) hmn (by rw[HYM.out];exact hd0)
    rw[hdt];clear HLO HO hdt hd0 HYM;go_wp2_with fail;go_roundw
    case rel=>exact⟨m + 1,hi,by go_num,rfl,by omega,hin,H1,HHI,(by first | exact rfl | exact Ld trivial)⟩
    case measure=>simp[intOf];omega
   ·have hdt:decide (Fd.cmpB y x < 0)=false:=decide_eq_false hd0
    have H1:Hid (∀ y ∈ l.drop m,0≤Fd.cmpB y x):=by
     intro z hz;obtain⟨t,ht,rfl⟩:=List.mem_iff_getElem.1 hz;rw[List.length_drop] at ht;rw[List.getElem_drop];refine Int.not_lt.1 (fun q=>?_);have:=Fd.q9b l x HS.out m (m + t) (by omega) (by omega) q;rw[HYM.out] at this;exact hd0 this
    rw[hdt];clear HHI HO hdt hd0 HYM;go_wp2_with fail;go_roundw
    case rel=>exact⟨lo,m,rfl,rfl,by omega,by omega,HLO,H1,(by first | exact rfl | exact Ld trivial)⟩
    case measure=>simp[intOf];omega
  ·obtain rfl:hi=lo:=by omega
   have HMS:=Ld (Fd.q6f l x hi hin HS.out HLO.out HHI.out)
   by_cases hn:hi < l.length
   ·obtain⟨g,o,hao,c0⟩:=HNX.out hi hn
    subst hao;obtain⟨y,hy⟩:∃ y,l[hi]=y:=⟨_,rfl⟩;rw[hy] at c0;have HYM:=Ld hy;have hml:(hi:Int) < l.length:=by omega
    have HN1:=Ld (fun W=>q74 y W);clear hy
    by_cases hyx:y=x
    ·have hbt:bm=true:=by rw[← HBM.out];exact decide_eq_true (HMS.out.2 ⟨hn,by rw[HYM.out];exact hyx⟩)
     have hyb:(y == x)=true:=beq_iff_eq.2 hyx;clear hyx HBM;subst hbt;go_wp2_with fail;go_ret2;exact⟨rfl,hi,rfl,hin,HLO.out,HHI.out⟩
    ·have hbt:bm=false:=by
      rw[← HBM.out];refine decide_eq_false (fun q=>hyx ?_);obtain⟨_,q2⟩:=HMS.out.1 q;rw[← HYM.out];exact q2
     have hyb:(y == x)=false:=beq_eq_false_iff_ne.2 hyx;clear hyx HBM;subst hbt;go_wp2_with fail;refine(HN1.out _).mono ?_;rintro e wx ⟨rfl,hwx⟩;subst wx;go_wp2_with fail;go_ret2;exact⟨rfl,hi,rfl,hin,HLO.out,HHI.out⟩
   ·have hbt:bm=false:=by
     rw[← HBM.out];exact decide_eq_false (fun q=>by obtain⟨q1,_⟩:=HMS.out.1 q;exact hn q1)
    have hml:¬ (hi:Int) < l.length:=by omega
    clear HBM;subst hbt;go_wp2_with fail;go_ret2;exact⟨rfl,hi,rfl,hin,HLO.out,HHI.out⟩
theorem kp_was (M:Nat) (x:Fd.En) (rd:List (List UInt8)) (ur:Value) (K:Nat→Prop) (w:World) (hM:M < w.heap.size) (hc:w.cell? ⟨M,1,none⟩=some ur) (hr:z0n w K ur rd) (hK:∀ b,K b→b < w.heap.size) (hs:rd.Pairwise (fun a b=>Fd.cmpB a b < 0)) (hl:rd.length≤1000) :
  Calls prog 91 #[.pointer (some ⟨M,0,none⟩),enAg x] w fun e w'=>e=.returned (.bool (decide (x.id ∈ rd)))∧Below w.heap.size w w':=by
 obtain⟨aor,capr,rfl,_⟩:=id hr;have hal:=(Below.refl w.heap.size w).alloc (Lr) (.cells #[.string (st x.id),.string (st x.ti),.string (st x.li),.int .i64 x.at_,.string (st x.ht)] 44);have AL:=Ld hal;have XB:=Ld (Blk.new w 44 #[.string (st x.id),.string (st x.ti),.string (st x.li),.int .i64 x.at_,.string (st x.ht)]);have HM:Hid (∀ W,Below w.heap.size w W→W.cell? ⟨M,1,none⟩=some (.slice aor rd.length capr)):=fun W hW=>(hW.cell (p:=⟨M,1,none⟩) hM).trans hc
 have HSE:Hid (∀ W,Below w.heap.size w W→Calls prog 87 #[.slice aor rd.length capr,.string (st x.id)] W fun e w'=>w'=W∧∃ k:Nat,e=.returned (.tuple #[.int .i64 k,.bool (decide (x.id ∈ rd))])):=by
  intro W hW;refine(q3i rd x.id hs hl _ K W (hr.below hK hW)).mono ?_;rintro e w' ⟨h1,k,h2,_⟩;exact⟨h1,k,h2⟩
 clear hal hc hr hK hs hM;generalize decide (x.id ∈ rd)=bm at HSE ⊢;unfold enAg;go_enter func91,ntmps91;go_upto_region 1 with fail;obtain⟨X,hX⟩:∃ X,X=w.heap.size:=⟨_,rfl⟩;rw[← hX] at XB;rw[← hX];generalize w.alloc (.cells #[.string (st x.id),.string (st x.ti),.string (st x.li),.int .i64 x.at_,.string (st x.ht)] 44)=w1 at AL XB ⊢;clear hX;have HS0:Hid (w1.drew.cell? ⟨M,1,none⟩=some (.slice aor rd.length capr)∧w1.drew.cell? ⟨X,0,none⟩=some (.string (st x.id))):=⟨HM.out _ AL.out.drew,Blk.cell (Blk.drew XB.out) 0⟩;have HC1:=Ld (HSE.out w1.drew AL.out.drew);clear HSE HM
 go_region_held3 (fun W=>W.cell? ⟨M,1,none⟩=some (.slice aor rd.length capr)∧W.cell? ⟨X,0,none⟩=some (.string (st x.id))) (exact HS0.out) (first
  | (go_at_call 87;(with_reducible refine HC1.out.mono ?_);rintro e w6 ⟨hw6,k,rfl⟩;subst w6))
 all_goals
  go_wp2_with fail;go_ret;exact⟨rfl,AL.out.drew⟩
def AsksB (g:FuncId) (M:Nat) (S:Nat→Prop) (q:Fd.En→Bool) (l:List Fd.En) (w:World):Prop :=
 ∀ w1,Ap S w w1→∀ x,x ∈ l→Calls prog g #[.pointer (some ⟨M,0,none⟩),enAg x] w1 fun e w'=>e=.returned (.bool (q x))∧Below w1.heap.size w1 w'
theorem q59 (g:FuncId) (M:Nat) (S:Nat→Prop) (q:Fd.En→Bool) (eg:∀ args w,(callFunc g args).run prog w=.ok (.enter g args) w) (l:List Fd.En) (v:Value) (K:Nat→Prop) (w:World) (hv:z18 w K v l) (hK:∀ b,K b→b < w.heap.size) (hl:l.length≤33554432) (hq:AsksB g M S q l w) :
  Calls prog 146 #[v,.func (.func g) #[.pointer (some ⟨M,0,none⟩)] #[]] w fun e w'=>Below w.heap.size w w'∧∃ i:Int,e=.returned (.int .i64 i)∧((i = -1∧∀ x ∈ l,q x=false)∨∃ (j:Nat) (hj:j < l.length),i=(j:Int)∧q l[j]=true∧∀ x ∈ l.take j,q x=false):=by
 obtain⟨ao,cap,hv1,_,hcl⟩:=hv.get;subst hv1;have HQ:=Ld hq;have HC:=Ld hcl;have HK:=Ld hK;clear hq hcl hv hK;go_enter func146,ntmps146;go_wp2_with fail
 go_loopw [8] (fun i wr=>∃ k:Nat,k≤l.length∧i=.int .i64 k∧Hid (∀ x ∈ l.take k,q x=false)∧Hid (Below w.heap.size w wr)) (fun i _=>l.length - (intOf i).toNat)
 case atStart=>exact⟨0,Nat.zero_le _,rfl,fun x h=>absurd h (by simp),Below.refl _ _⟩
 case round =>
  obtain⟨k,hk,rfl,HA,BL⟩:=hrel
  by_cases hlt:k < l.length
  ·obtain⟨b,o,rfl,hKb,c0,c1,c2,c3,c4⟩:=HC.out k hlt
   have hb:b < w.heap.size:=HK.out b hKb;rw[← BL.out.cell (p:=⟨b,_,none⟩) hb] at c0 c1 c2 c3 c4;have hcall:=HQ.out wr (Ap.of_below BL.out) l[k] (List.getElem_mem _);obtain⟨bb,hbb⟩:∃ bb,q l[k]=bb:=⟨_,rfl⟩;rw[hbb] at hcall;have HBB:=Ld hbb;clear hbb;unfold enAg at hcall;have HCALL:=Ld hcall;have hki:(k:Int) < l.length:=by omega
   clear hcall
   cases bb with
   | true =>
    go_wp2_with fail;refine HCALL.out.mono ?_;rintro e w1 ⟨rfl,hb1⟩;have BL1:=Ld (BL.out.trans (hb1.mono BL.out.size));clear hb1;go_wp2_with fail;go_ret;exact⟨BL1.out,k,rfl,.inr ⟨k,hlt,rfl,HBB.out,HA.out⟩⟩
   | false =>
    go_wp2_with fail;refine HCALL.out.mono ?_;rintro e w1 ⟨rfl,hb1⟩;have BL1:=Ld (BL.out.trans (hb1.mono BL.out.size));have HA2:Hid (∀ x ∈ l.take (k + 1),q x=false):=by
     intro x hx;rw[List.take_succ_eq_append_getElem hlt,List.mem_append,List.mem_singleton] at hx
     rcases hx with hx | rfl
     ·exact HA.out x hx
     ·exact HBB.out
    clear hb1;go_wp2_with fail;go_roundw
    case rel=>exact⟨k + 1,by omega,by go_num,HA2,BL1⟩
    case measure=>simp[intOf];omega
  ·have HN:Hid (∀ x ∈ l,q x=false):=by
    have:=HA.out;rw[List.take_of_length_le (by omega)] at this;exact this
   have hki:¬ (k:Int) < l.length:=by omega
   clear HA;go_wp2_with fail;go_ret;exact⟨BL.out,-1,rfl,.inl ⟨rfl,HN.out⟩⟩
structure DlI (w wr:World) (S:Nat→Prop) (g cap:Nat) (l:List Fd.En) (q:Fd.En→Bool) (i j:Nat) (c:Array Value):Prop where
 blk:Blk wr g 44 c
 sz:c.size=cap * 5
 lo:c.toList.take (i * 5)=y9 ((l.take j).filter fun x=>!q x)
 len:((l.take j).filter fun x=>!q x).length=i
 hi:∀ t,j * 5≤t→t < l.length * 5→c[t]? = (y9 l)[t]?
 ap:Ap S w wr
theorem set5 (c:Array Value) (i:Nat) (x:Fd.En) (h:i * 5 + 5≤c.size) :
  (((((c.setIfInBounds (i * 5) (.string (st x.id))).setIfInBounds (i * 5 + 1) (.string (st x.ti))).setIfInBounds (i * 5 + 2) (.string (st x.li))).setIfInBounds (i * 5 + 3) (.int .i64 x.at_)).setIfInBounds (i * 5 + 4) (.string (st x.ht))).toList.take ((i + 1) * 5)=c.toList.take (i * 5)++enV x:=by
 apply List.ext_getElem?
 intro t;rw[List.getElem?_take];simp only [Array.toList_setIfInBounds,List.getElem?_set,List.getElem?_append,List.length_take,List.length_set,Array.length_toList,List.getElem?_take];rw[Nat.min_eq_left (by omega)]
 by_cases h1:t < i * 5
 ·rw[if_pos (by omega),if_neg (by omega),if_neg (by omega),if_neg (by omega),if_neg (by omega),if_neg (by omega),if_pos h1,if_pos h1]
 ·by_cases h2:t < (i + 1) * 5
  ·rw[if_pos h2,if_neg h1]
   obtain⟨k,hk,rfl⟩:∃ k,k < 5∧t=i * 5 + k:=⟨t - i * 5,by omega,by omega⟩;rw[show i * 5 + k - i * 5=k by omega]
   match k,hk with
   | 0,_=>rw[if_neg (by omega),if_neg (by omega),if_neg (by omega),if_neg (by omega),if_pos (by omega),if_pos (by omega)];rfl
   | 1,_=>rw[if_neg (by omega),if_neg (by omega),if_neg (by omega),if_pos (by omega),if_pos (by omega)];rfl
   | 2,_=>rw[if_neg (by omega),if_neg (by omega),if_pos (by omega),if_pos (by omega)];rfl
   | 3,_=>rw[if_neg (by omega),if_pos (by omega),if_pos (by omega)];rfl
   | 4,_=>rw[if_pos (by omega),if_pos (by omega)];rfl
  ·rw[if_neg h2,if_neg h1]
   symm
   exact List.getElem?_eq_none (by simp[enV];omega)
theorem set5_hi (c:Array Value) (i t:Nat) (x:Fd.En) (h:i * 5 + 5≤t) :
  (((((c.setIfInBounds (i * 5) (.string (st x.id))).setIfInBounds (i * 5 + 1) (.string (st x.ti))).setIfInBounds (i * 5 + 2) (.string (st x.li))).setIfInBounds (i * 5 + 3) (.int .i64 x.at_)).setIfInBounds (i * 5 + 4) (.string (st x.ht)))[t]? = c[t]?:=by
 rw[Array.getElem?_setIfInBounds_ne (by omega),Array.getElem?_setIfInBounds_ne (by omega),Array.getElem?_setIfInBounds_ne (by omega),Array.getElem?_setIfInBounds_ne (by omega),Array.getElem?_setIfInBounds_ne (by omega)]
section
variable {w wr : World} {S : Nat→Prop} {g cap : Nat} {l : List Fd.En} {q : Fd.En→Bool} {i j : Nat} {c : Array Value}
theorem DlI.skip (h:DlI w wr S g cap l q i j c) (hj:j < l.length) (hq:q l[j]=true):DlI w wr S g cap l q i (j + 1) c:=by
 have e:(l.take (j + 1)).filter (fun x=>!q x)=(l.take j).filter fun x=>!q x:=by
  rw[List.take_succ_eq_append_getElem hj,List.filter_append,List.filter_cons_of_neg (by simp[hq])];simp
 exact⟨h.blk,h.sz,by rw[e];exact h.lo,by rw[e];exact h.len,fun t h1 h2=>h.hi t (by omega) h2,h.ap⟩
theorem DlI.below {wy:World} (h:DlI w wr S g cap l q i j c) (hb:Below wr.heap.size wr wy):DlI w wy S g cap l q i j c:=⟨Blk.below h.blk hb h.blk.lt,h.sz,h.lo,h.len,h.hi,h.ap.trans (Ap.of_below hb)⟩
theorem DlI.keep (h:DlI w wr S g cap l q i j c) (hg:S g) (hj:j < l.length) (hij:i < j + 1) (hcap:l.length≤cap) {x:Fd.En} (hx:l[j]=x) (hq:q x=false):∃ c',DlI w (((((wr.setCell ⟨g,i * 5,none⟩ (.string (st x.id))).setCell ⟨g,i * 5 + 1,none⟩ (.string (st x.ti))).setCell ⟨g,i * 5 + 2,none⟩ (.string (st x.li))).setCell ⟨g,i * 5 + 3,none⟩ (.int .i64 x.at_)).setCell ⟨g,i * 5 + 4,none⟩ (.string (st x.ht))) S g cap l q (i + 1) (j + 1) c':=by
 have e:(l.take (j + 1)).filter (fun x=>!q x)=((l.take j).filter fun x=>!q x)++[x]:=by
  rw[List.take_succ_eq_append_getElem hj,List.filter_append,hx,List.filter_cons_of_pos (by simp[hq])];simp
 have hs:=h.sz;refine⟨_,Blk.set_ (Blk.set_ (Blk.set_ (Blk.set_ (Blk.set_ h.blk _ _) _ _) _ _) _ _) _ _,by simp only [Array.size_setIfInBounds];exact hs,?_,by rw[e,List.length_append,h.len];rfl,fun t h1 h2=>?_,?_⟩
 ·rw[e,z1h,← h.lo]
  exact set5 c i x (by omega)
 ·rw[set5_hi c i t x (by omega)]
  exact h.hi t (by omega) h2
 ·exact((((h.ap.setCell (p:=⟨g,_,none⟩) hg _).setCell (p:=⟨g,_,none⟩) hg _).setCell (p:=⟨g,_,none⟩) hg _).setCell (p:=⟨g,_,none⟩) hg _).setCell (p:=⟨g,_,none⟩) hg _
end
theorem q29 (f:FuncId) (M:Nat) (q:Fd.En→Bool) (eg:∀ args w,(callFunc f args).run prog w=.ok (.enter f args) w) (l:List Fd.En) (B:Nat) (v:Value) (w:World) (hl:l.length≤1000) (h:w.ownsRow B 44 5 v l.length (y9 l)) (hq:AsksB f M (fun b=>v.ownBlock=some b) q l w) :
  Calls prog 90 #[v,.func (.func f) #[.pointer (some ⟨M,0,none⟩)] #[]] w fun e w'=>∃ v',e=.returned v'∧w'.ownsRow B 44 5 v' (l.filter fun x=>!q x).length (y9 (l.filter fun x=>!q x))∧Ap (fun b=>v.ownBlock=some b) w w'∧v'.ownBlock=v.ownBlock:=by
 have hev:z18 w (fun b=>b < w.heap.size) v l:=by
  obtain⟨ao,cap,h1,h2,h3⟩:=z19.of_own (K:=fun b=>b < w.heap.size) h (fun g q=>(h.lt g q).2);exact⟨ao,cap,h1,h2,h3⟩
 have HIF:=Ld (q59 f M _ q eg l v _ w hev (fun b q=>q) (by omega) hq);have HQ:=Ld hq;have HO:=Ld h;obtain⟨ao,cap,hv⟩:=Z9 h;subst hv;clear hev hq h;go_enter func90,ntmps90;go_wp2_with fail;refine HIF.out.mono ?_;rintro e w1 ⟨hb1,i,rfl,hi⟩;have B1:=Ld hb1;clear hb1 HIF
 rcases hi with ⟨rfl,hall⟩ | ⟨j0,hj0,rfl,hqj,hah⟩
 ·have HE:Hid ((l.filter fun x=>!q x)=l):=by
   show _=_;exact List.filter_eq_self.2 (fun x hx=>by rw[hall x hx];rfl)
  clear hall;go_wp2_with fail;go_ret;refine⟨_,rfl,?_,Ap.of_below B1.out,rfl⟩;rw[HE.out];exact V7 HO.out (fun g' q'=>B1.out.block g' (HO.out.lt g' q').2)
 ·obtain⟨g,cap',cur,hv,hg,hcs,hnc,hcm,hBg,ht,_⟩:=z8o HO.out (by omega)
  injection hv with e1 e2 e3;subst e1;subst e3;have hgw:g < w.heap.size:=(Array.getElem?_eq_some_iff.1 hg).1;have I0:Hid (∃ c,DlI w w1 (fun b=>(Value.slice (some ⟨g,0,none⟩) l.length cap).ownBlock=some b) g cap l q j0 (j0 + 1) c):=by
   have hfl:(l.take j0).filter (fun x=>!q x)=l.take j0:=List.filter_eq_self.2 (fun x hx=>by rw[hah x hx];rfl);have d0:DlI w w1 (fun b=>(Value.slice (some ⟨g,0,none⟩) l.length cap).ownBlock=some b) g cap l q j0 j0 cur:=by
    refine⟨(B1.out.block g hgw).trans hg,hcs,?_,by rw[hfl,List.length_take];omega,fun t h1 h2=>?_,Ap.of_below B1.out⟩
    ·rw[hfl,← z3d,← ht,List.take_take,Nat.min_eq_left (by omega)]
    ·rw[← ht,List.getElem?_take,if_pos h2,Array.getElem?_toList]
   exact⟨cur,d0.skip hj0 hqj⟩
  have hj1:((j0:Int) == -1)=false:=beq_eq_false_iff_ne.2 (by omega);have hcap63:cap≤9223372036854775807:=by unfold maxLen at hcm;omega
  have HCM:=Ld (And.intro hBg hcm);clear hqj hah hg hcs ht HO B1;go_wp2_with fail
  go_loopw [5,6] (fun s5 s6 wr=>∃ (i j:Nat) (c:Array Value),s5=.int .i64 i∧s6=.int .i64 j∧i < j∧j≤l.length∧Hid (DlI w wr (fun b=>(Value.slice (some ⟨g,0,none⟩) l.length cap).ownBlock=some b) g cap l q i j c)) (fun _ s6 _=>l.length - (intOf s6).toNat)
  case atStart =>
   obtain⟨c,hc⟩:=I0.out;exact⟨j0,j0 + 1,c,rfl,by go_num,by omega,by omega,hc⟩
  case round =>
   clear I0;obtain⟨i,j,c,rfl,rfl,hij,hjl,DI⟩:=hrel
   by_cases hlt:j < l.length
   ·have hcell:∀ k,k < 5→c[j * 5 + k]? = (enV l[j])[k]?:=by
     intro k hk;rw[DI.out.hi (j * 5 + k) (by omega) (by omega)];obtain⟨e0,e1,e2,e3,e4⟩:=z9q l j hlt
     match k,hk with
     | 0,_=>exact e0
     | 1,_=>exact e1
     | 2,_=>exact e2
     | 3,_=>exact e3
     | 4,_=>exact e4
    obtain⟨y,hy⟩:∃ y,l[j]=y:=⟨_,rfl⟩;rw[hy] at hcell;have c0:wr.cell? ⟨g,j * 5,none⟩=some (.string (st y.id)):=(Blk.cell DI.out.blk _).trans (hcell 0 (by omega));have c1:wr.cell? ⟨g,j * 5 + 1,none⟩=some (.string (st y.ti)):=(Blk.cell DI.out.blk _).trans (hcell 1 (by omega));have c2:wr.cell? ⟨g,j * 5 + 2,none⟩=some (.string (st y.li)):=(Blk.cell DI.out.blk _).trans (hcell 2 (by omega));have c3:wr.cell? ⟨g,j * 5 + 3,none⟩=some (.int .i64 y.at_):=(Blk.cell DI.out.blk _).trans (hcell 3 (by omega));have c4:wr.cell? ⟨g,j * 5 + 4,none⟩=some (.string (st y.ht)):=(Blk.cell DI.out.blk _).trans (hcell 4 (by omega));have hal:=(Below.refl wr.heap.size wr).alloc (Lr) (.cells #[.string (st y.id),.string (st y.ti),.string (st y.li),.int .i64 y.at_,.string (st y.ht)] 44);have DA:=Ld (DI.out.below hal);have YB:=Ld (Blk.new wr 44 #[.string (st y.id),.string (st y.ti),.string (st y.li),.int .i64 y.at_,.string (st y.ht)]);have hcall:=HQ.out _ DA.out.ap y (by rw[← hy];exact List.getElem_mem hlt);unfold enAg at hcall;have HCALL:=Ld hcall;have HY:=Ld hy;have hji:(j:Int) < l.length:=by omega
    clear hcall hal hcell hy;go_upto_region 8 with fail;generalize wr.alloc (.cells #[.string (st y.id),.string (st y.ti),.string (st y.li),.int .i64 y.at_,.string (st y.ht)] 44)=wa at DA YB HCALL ⊢;have y0:wa.cell? ⟨wr.heap.size,0,none⟩=some (.string (st y.id)):=Blk.cell YB.out 0;have y1:wa.cell? ⟨wr.heap.size,1,none⟩=some (.string (st y.ti)):=Blk.cell YB.out 1;have y2:wa.cell? ⟨wr.heap.size,2,none⟩=some (.string (st y.li)):=Blk.cell YB.out 2;have y3:wa.cell? ⟨wr.heap.size,3,none⟩=some (.int .i64 y.at_):=Blk.cell YB.out 3;have y4:wa.cell? ⟨wr.heap.size,4,none⟩=some (.string (st y.ht)):=Blk.cell YB.out 4;clear c0 c1 c2 c3 c4;obtain⟨bb,hbb⟩:∃ bb,q y=bb:=⟨_,rfl⟩;rw[hbb] at HCALL;have HBB:=Ld hbb;clear hbb;go_wp2_with fail;refine HCALL.out.mono ?_;rintro e w5 ⟨rfl,hb5⟩;have D5:=Ld (DA.out.below hb5);have Y5:=Ld (Blk.below YB.out hb5 YB.out.lt);clear hb5 HCALL y0 y1 y2 y3 y4 DA YB
    cases bb with
    | true =>
     have D6:=Ld (D5.out.skip hlt (by rw[HY.out];exact HBB.out));clear D5 DI;go_wp2_with fail;go_roundw
     case rel=>exact⟨i,j + 1,c,rfl,by go_num,by omega,by omega,D6⟩
     case measure=>simp[intOf];omega
    | false =>
     have D6:=Ld (D5.out.keep rfl hlt (by omega) hnc HY.out HBB.out);have hcz:=D5.out.sz;have y0:w5.cell? ⟨wr.heap.size,0,none⟩=some (.string (st y.id)):=Blk.cell Y5.out 0;have y1:w5.cell? ⟨wr.heap.size,1,none⟩=some (.string (st y.ti)):=Blk.cell Y5.out 1;have y2:w5.cell? ⟨wr.heap.size,2,none⟩=some (.string (st y.li)):=Blk.cell Y5.out 2;have y3:w5.cell? ⟨wr.heap.size,3,none⟩=some (.int .i64 y.at_):=Blk.cell Y5.out 3;have y4:w5.cell? ⟨wr.heap.size,4,none⟩=some (.string (st y.ht)):=Blk.cell Y5.out 4;have g0:w5.cell? ⟨g,i * 5,none⟩=some (c[i * 5]'(by omega)):=(Blk.cell D5.out.blk _).trans (Array.getElem?_eq_getElem (by omega));have g1:w5.cell? ⟨g,i * 5 + 1,none⟩=some (c[i * 5 + 1]'(by omega)):=(Blk.cell D5.out.blk _).trans (Array.getElem?_eq_getElem (by omega));have g2:w5.cell? ⟨g,i * 5 + 2,none⟩=some (c[i * 5 + 2]'(by omega)):=(Blk.cell D5.out.blk _).trans (Array.getElem?_eq_getElem (by omega));have g3:w5.cell? ⟨g,i * 5 + 3,none⟩=some (c[i * 5 + 3]'(by omega)):=(Blk.cell D5.out.blk _).trans (Array.getElem?_eq_getElem (by omega));have g4:w5.cell? ⟨g,i * 5 + 4,none⟩=some (c[i * 5 + 4]'(by omega)):=(Blk.cell D5.out.blk _).trans (Array.getElem?_eq_getElem (by omega));generalize c[i * 5]'(by omega)=u0 at g0;generalize c[i * 5 + 1]'(by omega)=u1 at g1;generalize c[i * 5 + 2]'(by omega)=u2 at g2;generalize c[i * 5 + 3]'(by omega)=u3 at g3;generalize c[i * 5 + 4]'(by omega)=u4 at g4;have f0:=Blk.frozen D5.out.blk (i * 5);have f1:=Blk.frozen D5.out.blk (i * 5 + 1);have f2:=Blk.frozen D5.out.blk (i * 5 + 2);have f3:=Blk.frozen D5.out.blk (i * 5 + 3);have f4:=Blk.frozen D5.out.blk (i * 5 + 4);have hil:(i:Int) < l.length:=by omega
     clear D5 DI hcz;go_wp2_with fail;go_roundw
     case rel =>
      obtain⟨c',hc'⟩:=D6.out;exact⟨i + 1,j + 1,c',by go_num,by go_num,by omega,by omega,hc'⟩
     case measure=>simp[intOf];omega
   ·have hje:j=l.length:=by omega
    subst hje;have hil:i < l.length:=by omega
    have hni:¬ cap=i:=by omega
    have hcl:=z4p (P:=prog) wr 23 44 0 (.agg #[.string ⟨#[]⟩,.string ⟨#[]⟩,.string ⟨#[]⟩,.int .i64 0,.string ⟨#[]⟩]) 5 underlying23 q3s rfl (by intro u hu;simp[Value.cells] at hu;rcases hu with rfl | rfl | rfl | rfl | rfl <;> rfl) (by decide) g (i * 5) (l.length - i) (cap - i) (by omega) c _ DI.out.blk (by rw[DI.out.sz];omega);obtain⟨c2,hc2⟩:∃ c2,c2=(c.toList.take (i * 5)++(Builtin.zeroCells (Value.agg #[.string ⟨#[]⟩,.string ⟨#[]⟩,.string ⟨#[]⟩,.int .i64 0,.string ⟨#[]⟩]).cells (l.length - i)).toList++c.toList.drop (i * 5 + (l.length - i) * 5)).toArray:=⟨_,rfl⟩;have hcl':∀ ty,(Builtin.clear_ #[23] ty #[.slice (some ⟨g,i * 5,none⟩) (l.length - i) (cap - i)]).run prog wr=.ok (.tuple #[]) (wr.setRow g c2):=fun ty=>by rw[hc2];exact hcl
    have hct:c.toList.length=cap * 5:=by rw[Array.length_toList];exact DI.out.sz
    have FIN:Hid (∀ W,W=wr.setRow g c2→W.ownsRow B 44 5 (.slice (some ⟨g,0,none⟩) i cap) (l.filter fun x=>!q x).length (y9 (l.filter fun x=>!q x))∧Ap (fun b=>(Value.slice (some ⟨g,0,none⟩) l.length cap).ownBlock=some b) w W):=by
     rintro W rfl;have hlen:=DI.out.len;have hlo:=DI.out.lo;rw[List.take_length] at hlen hlo;refine⟨?_,DI.out.ap.setRow (g:=g) rfl _⟩;rw[hlen];refine z5r HCM.out.1 (setRow_heap wr g c c2 _ _ DI.out.blk) ?_ (by omega) HCM.out.2 ?_
     ·rw[hc2]
      simp only [List.size_toArray,List.length_append,List.length_take,List.length_drop,Array.length_toList,size_zeroCells,show (Value.agg #[.string ⟨#[]⟩,.string ⟨#[]⟩,.string ⟨#[]⟩,.int .i64 0,.string ⟨#[]⟩]).cells.size=5 from rfl,DI.out.sz];omega
     ·rw[hc2]
      show List.take _ (_++_++_)=_;rw[List.append_assoc,List.take_append_of_le_length (by rw[List.length_take,hct];omega),List.take_take,Nat.min_self];exact hlo
    have hilz:¬ (l.length:Int) < l.length:=by omega
    have hii:(i:Int)≤l.length:=by omega
    clear hcl hc2 hct DI;go_wp2_with fail;go_ret;obtain⟨F1,F2⟩:=FIN.out _ rfl;exact⟨_,rfl,F1,F2,rfl⟩
theorem eg_was (args:Array Value) (w:World):(callFunc 91 args).run prog w=.ok (.enter 91 args) w:=Z7 func91 (by kernel_rfl) rfl _ _
theorem KpI.shv {w wx:World} {M R:Nat} {ue ur:Value} {es:List Fd.En} {rd:List (List UInt8)} (h:KpI w wx M ue ur es rd) (hR:R < w.heap.size) {w0:World} (h0:Below w0.heap.size w0 w):ShV wx (fun b=>w0.heap.size≤b∧b < wx.heap.size∧b ≠ R) ue ur ⟨es,rd⟩:=by
 have hsz:=h0.size;constructor
 ·obtain⟨ao,cap,h1,h2,h3⟩:=z19.of_own (K:=fun b=>w0.heap.size≤b∧b < wx.heap.size∧b ≠ R) h.oe (fun g q=>by have:=h.oe.lt g q;omega)
  exact⟨ao,cap,h1,h2,h3⟩
 ·exact z0n.of_own h.or (fun g q=>by have:=h.or.lt g q;omega)
theorem ShV.stored {w0 w:World} {R:Nat} {ue ur v0 v1:Value} {s:Fd.Sh} (h:ShV w (fun b=>w0.heap.size≤b∧b < w.heap.size∧b ≠ R) ue ur s):ShV ((w.setCell ⟨R,0,none⟩ v0).setCell ⟨R,1,none⟩ v1) (fun b=>w0.heap.size≤b∧b < ((w.setCell ⟨R,0,none⟩ v0).setCell ⟨R,1,none⟩ v1).heap.size) ue ur s:=by
 have hfr:∀ b,(w0.heap.size≤b∧b < w.heap.size∧b ≠ R)→(w0.heap.size≤b∧b < ((w.setCell ⟨R,0,none⟩ v0).setCell ⟨R,1,none⟩ v1).heap.size)∧((w.setCell ⟨R,0,none⟩ v0).setCell ⟨R,1,none⟩ v1).heap[b]? = w.heap[b]?:=by
  rintro b ⟨q1,q2,q3⟩;refine⟨⟨q1,by simpa [World.setCell] using q2⟩,?_⟩;rw[Below.heap_setCell _ ⟨R,1,none⟩ _ b q3,Below.heap_setCell _ ⟨R,0,none⟩ _ b q3]
 exact⟨h.1.frame hfr,h.2.frame hfr⟩
theorem j7b (s:Fd.Sh) (ve vr:Value) (K:Nat→Prop) (w:World) (hg:Gl w) (hv:ShV w K ve vr s) (hK:∀ b,K b→b < w.heap.size) (hs:Fd.z0e s=0) :
  Calls prog 42 #[.agg #[ve,vr]] w fun e w'=>Below w.heap.size w w'∧∃ ue ur,e=.returned (.tuple #[.agg #[ue,ur],.int .i64 ((s.es.length:Int) - (Fd.z96 s).es.length),.int .i64 0])∧ShV w' (fun b=>w.heap.size≤b∧b < w'.heap.size) ue ur (Fd.z96 s):=by
 have hmf:∀ (fn:Fn) (first cap:Array Value) (w:World),(Instr.makeFunc fn first cap).run prog w=.ok (.func fn first cap) w:=fun _ _ _ _=>rfl
 have hlt:=hg.lt;have hr:=(Fd.z01 s).1 hs;obtain⟨aoe,cape,rfl,_⟩:=id hv.1;obtain⟨aor,capr,rfl,_⟩:=id hv.2;have HG:=Ld hg;have HK:=Ld hK;have HV:=Ld hv;have HR:=Ld hr;have hes:s.es.length≤20:=hr.1;have hrd:s.rd.length≤40:=hr.2.1;have AL1:=(Below.refl w.heap.size w).alloc (Lr) (.cells #[.slice aoe s.es.length cape,.slice aor s.rd.length capr] 26);have AL2:=AL1.alloc AL1.size (.cells #[.slice none 0 0,.slice none 0 0] 26);have XB:=Ld (Blk.alloc (Blk.new w 26 #[.slice aoe s.es.length cape,.slice aor s.rd.length capr]) (.cells #[.slice none 0 0,.slice none 0 0] 26));have RB:Hid (Blk ((w.alloc (.cells #[.slice aoe s.es.length cape,.slice aor s.rd.length capr] 26)).alloc (.cells #[.slice none 0 0,.slice none 0 0] 26)) (w.heap.size + 1) 26 #[.slice none 0 0,.slice none 0 0]):=by
  have:=Blk.new (w.alloc (.cells #[.slice aoe s.es.length cape,.slice aor s.rd.length capr] 26)) 26 #[.slice none 0 0,.slice none 0 0];simp only [World.size_alloc] at this;exact this
 have B1:=Ld AL2;clear AL1 AL2 hg hv hK hr hs;go_enter func42,ntmps42;go_upto_region 1 with fail;obtain⟨X,hX⟩:∃ X,X=w.heap.size:=⟨_,rfl⟩;rw[← hX] at XB RB;rw[← hX];have hXw:w.heap.size≤X:=by omega
 generalize (w.alloc (.cells #[.slice aoe s.es.length cape,.slice aor s.rd.length capr] 26)).alloc (.cells #[.slice none 0 0,.slice none 0 0] 26)=w1 at B1 XB RB ⊢;clear hX;have x0:w1.cell? ⟨X,0,none⟩=some (.slice aoe s.es.length cape):=Blk.cell XB.out 0;have x1:w1.cell? ⟨X,1,none⟩=some (.slice aor s.rd.length capr):=Blk.cell XB.out 1;have HCK:=z4h s _ _ K w1 (HG.out.below B1.out hlt) (HV.out.1.below HK.out B1.out) (HV.out.2.below HK.out B1.out) (fun b q=>Nat.lt_of_lt_of_le (HK.out b q) B1.out.size) (fun x hx=>by have:=(Fd.q21 (HR.out.2.2.1.1 x hx)).2;omega);rw[(Fd.z01 s).2 HR.out] at HCK;have HCK:=Ld HCK;go_wp2_with fail;refine HCK.out.mono ?_;rintro e w3 ⟨rfl,hb2⟩;have B3:=Ld (B1.out.trans (hb2.mono B1.out.size));have X3:=Ld (Blk.call XB.out hb2);have R3:=Ld (Blk.call RB.out hb2);clear hb2 HCK x0 x1 B1 XB RB;have x0:w3.cell? ⟨X,0,none⟩=some (.slice aoe s.es.length cape):=Blk.cell X3.out 0;have x1:w3.cell? ⟨X,1,none⟩=some (.slice aor s.rd.length capr):=Blk.cell X3.out 1;have HOW:=Ld (j06 s.es s.rd _ _ K w3 (HV.out.1.below HK.out B3.out) (HV.out.2.below HK.out B3.out) (fun b q=>Nat.lt_of_lt_of_le (HK.out b q) B3.out.size) (by omega) (by omega));go_wp2_with fail;refine HOW.out.mono ?_;rintro e w4 ⟨M,ue,ur,rfl,hk4⟩;have K4:=Ld hk4;clear hk4 HOW x0 x1;obtain⟨ao4,cap4,hu4⟩:=Z9 K4.out.oe;subst hu4;obtain⟨aou,capu,hur⟩:=Z9 K4.out.or;subst hur;have HDR:Hid (Fd.z96 s=⟨s.es.filter fun x=>!decide (x.id ∈ s.rd),s.rd⟩):=by
  show _=_;unfold Fd.z96
  congr 1
  refine List.filter_congr (fun x _=>?_);rw[List.contains_eq_mem]
 have HDF:=Ld (q29 91 M (fun x=>decide (x.id ∈ s.rd)) eg_was s.es _ _ w4 (by omega) K4.out.oe (by
  intro w' hap x _;have hmb:Blk w' M 137 #[.slice ao4 s.es.length cap4,.slice aou s.rd.length capu]:=(hap.block M K4.out.mb.lt (fun e=>K4.out.ne e)).trans K4.out.mb;refine kp_was M x s.rd _ (fun b=>b < w'.heap.size) w' hmb.lt (Blk.cell hmb 1) ?_ (fun b q=>q) HR.out.2.2.2.2 (by omega);exact z0n.of_own (V7 K4.out.or (fun g q=>hap.block g (K4.out.or.lt g q).2 (fun e=>K4.out.nn g e q))) (fun g q=>Nat.lt_of_lt_of_le (K4.out.or.lt g q).2 hap.size)))
 have m0:w4.cell? ⟨M,0,none⟩=some (.slice ao4 s.es.length cap4):=Blk.cell K4.out.mb 0;obtain⟨fl,hfl⟩:∃ fl,(s.es.filter fun x=>!decide (x.id ∈ s.rd))=fl:=⟨_,rfl⟩;rw[hfl] at HDF HDR;have hfle:fl.length≤s.es.length:=by rw[← hfl];exact List.length_filter_le _ _
 clear hfl;go_wp2_with fail;refine HDF.out.mono ?_;rintro e w5 ⟨v5,rfl,ho5,hap5,hbl5⟩;obtain⟨ao5,cap5,hu5⟩:=Z9 ho5;subst hu5;have hmb5:Blk w5 M 137 #[.slice ao4 s.es.length cap4,.slice aou s.rd.length capu]:=(hap5.block M K4.out.mb.lt (fun e=>K4.out.ne e)).trans K4.out.mb;have K6:=Ld (K4.out.setE hap5 ho5 (fun g q=>.inl (by rw[← hbl5];exact q)));have n0:w5.cell? ⟨M,0,none⟩=some (.slice ao4 s.es.length cap4):=Blk.cell hmb5 0;have f0:=Blk.frozen hmb5 0;clear m0 HDF ho5 hap5 hbl5 hmb5 K4;go_upto_region 6 with fail;generalize w5.setCell ⟨M,0,none⟩ (.slice ao5 fl.length cap5)=w6 at K6 ⊢;clear n0 f0;have B6:=Ld (B3.out.trans (K6.out.be.mono B3.out.size));have R6:=Ld (Blk.below R3.out K6.out.be R3.out.lt);have X6:=Ld (Blk.below X3.out K6.out.be X3.out.lt);have SV:=Ld (K6.out.shv R3.out.lt B3.out);have m0:w6.cell? ⟨M,0,none⟩=some (.slice ao5 fl.length cap5):=Blk.cell K6.out.mb 0;have m1:w6.cell? ⟨M,1,none⟩=some (.slice aou s.rd.length capu):=Blk.cell K6.out.mb 1;have x0:w6.cell? ⟨X,0,none⟩=some (.slice aoe s.es.length cape):=Blk.cell X6.out 0;have r0:w6.cell? ⟨X + 1,0,none⟩=some (.slice none 0 0):=Blk.cell R6.out 0;have r1:w6.cell? ⟨X + 1,1,none⟩=some (.slice none 0 0):=Blk.cell R6.out 1;have f0:=Blk.frozen R6.out 0;have f1:=Blk.frozen R6.out 1;have hw1:IntKind.i64.wrap ((s.es.length:Int) - (fl.length:Int))=(s.es.length:Int) - (fl.length:Int):=by rw[IntKind.wrap_i64];omega
 have hMX:M ≠ X + 1:=fun e=>by have:=R3.out.lt;have:=K6.out.ml;omega
 have q0:(w6.setCell ⟨X + 1,0,none⟩ (.slice ao5 fl.length cap5)).cell? ⟨M,0,none⟩=some (.slice ao5 fl.length cap5):=Blk.cell (Blk.far K6.out.mb (p:=⟨X + 1,0,none⟩) hMX _) 0;have q1:(w6.setCell ⟨X + 1,0,none⟩ (.slice ao5 fl.length cap5)).cell? ⟨X,0,none⟩=some (.slice aoe s.es.length cape):=Blk.cell (Blk.far X6.out (p:=⟨X + 1,0,none⟩) (by show X ≠ X + 1;omega) _) 0;clear K6 X6 hMX
 go_region
 go_wp2_with fail;have HDE:=HDR.out;refine bodyPost_ret (v:=.tuple #[.agg #[.slice ao5 fl.length cap5,.slice aou s.rd.length capu],.int .i64 ((s.es.length:Int) - fl.length),.int .i64 0]) (by simp[results,results42,go_sem, *]) rfl ?_;refine⟨((B6.out.setCell (p:=⟨X + 1,0,none⟩) (by show _≤X + 1;omega) _).setCell (p:=⟨X + 1,1,none⟩) (by show _≤X + 1;omega) _).drew,_,_,by rw[HDE],?_⟩;rw[HDE];exact SV.out.stored
theorem j2c (cur:List Value) (l:List (List UInt8)) (k:Nat) (x:(List UInt8)) (hk:k≤l.length) (h:cur.take (k * 1)=Q8 (l.take k)) (hc:(l.length + 1) * 1≤cur.length) :
  ((cur.take (k * 1)++[Value.string (st x)]++(Q8 (l.drop k)++cur.drop ((k + 1) * 1 + (Q8 (l.drop k)).length))).take ((l.length + 1) * 1))=Q8 (l.take k++x :: l.drop k):=by
 have e:Q8 (l.take k++x :: l.drop k)=Q8 (l.take k)++[Value.string (st x)]++Q8 (l.drop k):=by
  rw[z6r,show Q8 (x :: l.drop k)=[Value.string (st x)]++Q8 (l.drop k) from rfl,List.append_assoc]
 have hl:(Q8 (l.take k++x :: l.drop k)).length=(l.length + 1) * 1:=by rw[z0u,List.length_append,List.length_cons,List.length_take,List.length_drop,Nat.min_eq_left hk];omega
 rw[h,← List.append_assoc,← e,List.take_append_of_le_length (by omega),List.take_of_length_le (by omega)]
theorem j3d (l:List (List UInt8)) (k:Nat) (x:(List UInt8)) (hk:k≤l.length) (hl:l.length≤1000) (B V:Nat) (v:Value) (w:World) (h:w.ownsRow B 9 1 v l.length (Q8 l)) (hV:Blk w V 9 ([Value.string (st x)]:List Value).toArray) (hne:v.ownBlock ≠ some V) (hB:B≤w.heap.size) :
  Calls prog 88 #[v,.int .i64 k,.slice (some ⟨V,0,none⟩) 1 1] w fun e w'=>∃ v',e=.returned v'∧w'.ownsRow B 9 1 v' (l.take k++x :: l.drop k).length (Q8 (l.take k++x :: l.drop k))∧Ap (fun b=>v.ownBlock=some b) w w'∧(v'.ownBlock=v.ownBlock∨v'.ownBlock=some w.heap.size):=by
 obtain⟨i0,hi,hz0,hz1,hz2⟩:=info_parts Tryz.infoStrR;have hlen:(l.take k++x :: l.drop k).length=l.length + 1:=by rw[List.length_append,List.length_cons,List.length_take,List.length_drop];omega
 have hone:([Value.string (st x)]:List Value).length=1 * 1:=rfl;have h1o:∀ u ∈ ([Value.string (st x)]:List Value),u.oneCell'=true:=(by intro u hu;simp at hu;subst hu;rfl);have hnews:∀ W:World,W.heap[V]? = w.heap[V]?→∀ j u,([Value.string (st x)]:List Value)[j]? = some u→W.cell? ((⟨V,0,none⟩:Addr).add j)=some u:=fun W hW j u hu=>by
  rw[z1m,Nat.zero_add];exact(cell_of_block hW j).trans ((Blk.cell hV j).trans (by simpa using hu))
 have HN:=Ld hnews;have HO:=Ld h1o;have hVw:=hV.lt;clear hnews h1o
 by_cases hkn:k=l.length
 ·as_aux_lemma =>
  subst hkn;have HE:Hid (Q8 (l.take l.length++x :: l.drop l.length)=Q8 l++[Value.string (st x)]):=by
   show _=_;rw[List.take_length,List.drop_length,z6r];rfl
  have HL:=Ld hlen;have h2:=h.2;clear hlen hV hk
  rcases h2 with ⟨hv,h0⟩ | ⟨g,cap,cur,hv,_,_,hn,hm,_⟩
  ·have hl0:l=[]:=List.eq_nil_of_length_eq_zero h0
   subst hl0;subst hv;have h:w.ownsRow B 9 1 (.slice none 0 0) 0 (Q8 []):=h;have e0:(([]:List (List UInt8)).length:Int)=0:=rfl;have e1:([]:List (List UInt8)).length=0:=rfl;clear h0;rw[e0];go_enter func88,ntmps88;go_wp2_with (at_builtin;refine J3 rfl _ _ 24 rfl B 9 i0 (.string ⟨#[]⟩) 1 16 underlying24 hi hz0 hz1 hz2 rfl (by decide) (.slice none 0 0) 0 (Q8 []) rfl h ⟨V,0,none⟩ 1 1 [Value.string (st x)] rfl hone (HN.out w rfl) HO.out (by decide) (by unfold maxLen;omega) (by omega) hB ?_);intro v' w1 hown hgrow hv';obtain⟨ao',cap',e'⟩:=Z9 hown;subst e';have OW:=Ld hown;have HGR:=Ld hgrow;have HV:=Ld hv';clear hown hgrow hv' h;go_wp2_with fail;go_ret;refine⟨_,rfl,?_,(Ap.refl _ w).grown HGR.out (fun b _ e=>e),HV.out⟩
   first
    | (rw[HL.out,HE.out];exact OW.out)
    | exact OW.out
  ·subst hv
   have hcm:cap≤9223372036854775807:=by unfold maxLen at hm;omega
   clear hm
   by_cases hq:cap=l.length
   ·subst hq
    go_enter func88,ntmps88;go_wp2_with (at_builtin;refine J3 rfl _ _ 24 rfl B 9 i0 (.string ⟨#[]⟩) 1 16 underlying24 hi hz0 hz1 hz2 rfl (by decide) (.slice (some ⟨g,0,none⟩) l.length l.length) l.length (Q8 l) rfl h ⟨V,0,none⟩ 1 1 [Value.string (st x)] rfl hone (HN.out w rfl) HO.out (by decide) (by unfold maxLen;omega) (by omega) hB ?_);intro v' w1 hown hgrow hv';obtain⟨ao',cap',e'⟩:=Z9 hown;subst e';have OW:=Ld hown;have HGR:=Ld hgrow;have HV:=Ld hv';clear hown hgrow hv' h;go_wp2_with fail;go_ret;refine⟨_,rfl,?_,(Ap.refl _ w).grown HGR.out (fun b _ e=>e),HV.out⟩
    first
     | (rw[HL.out,HE.out];exact OW.out)
     | exact OW.out
   ·have hq2:l.length < cap:=by omega
    go_enter func88,ntmps88;go_wp2_with (at_builtin;refine J3 rfl _ _ 24 rfl B 9 i0 (.string ⟨#[]⟩) 1 16 underlying24 hi hz0 hz1 hz2 rfl (by decide) (.slice (some ⟨g,0,none⟩) l.length cap) l.length (Q8 l) rfl h ⟨V,0,none⟩ 1 1 [Value.string (st x)] rfl hone (HN.out w rfl) HO.out (by decide) (by unfold maxLen;omega) (by omega) hB ?_);intro v' w1 hown hgrow hv';obtain⟨ao',cap',e'⟩:=Z9 hown;subst e';have OW:=Ld hown;have HGR:=Ld hgrow;have HV:=Ld hv';clear hown hgrow hv' h;go_wp2_with fail;go_ret;refine⟨_,rfl,?_,(Ap.refl _ w).grown HGR.out (fun b _ e=>e),HV.out⟩
    first
     | (rw[HL.out,HE.out];exact OW.out)
     | exact OW.out
 have hkl:k < l.length:=by omega
 obtain⟨g,cap,cur,rfl,hg,hcs,hnc,hcm,hBg,ht,_⟩:=z8o h (by omega);have hgw:g < w.heap.size:=(Array.getElem?_eq_some_iff.1 hg).1;have hgV:g ≠ V:=fun e=>hne (by rw[e];rfl)
 have hct:cur.toList.length=cap * 1:=by rw[Array.length_toList];exact hcs
 have hdl:(Q8 (l.drop k)).length=(l.length - k) * 1:=by rw[z0u,List.length_drop]
 have hsz:(prog.info? 9).map (·.size)=some 1:=by rw[hi];simp[hz1]
 have htk:cur.toList.take (k * 1)=Q8 (l.take k):=by rw[← q3l,← ht,List.take_take,Nat.min_eq_left (by omega)]
 have hmd:=Ld (q1k (l.drop k));have hkc:k≤cap:=by omega
 have hk1c:¬ cap=k:=by omega
 have hkne:¬ ((k:Int)=(l.length:Int)):=by omega
 have hw1:IntKind.i64.wrap ((l.length:Int) + 1)=(l.length:Int) + 1:=by rw[IntKind.wrap_i64];omega
 have hw2:IntKind.i64.wrap ((k:Int) + 1)=(k:Int) + 1:=by rw[IntKind.wrap_i64];omega
 have htn:((k:Int) + 1).toNat=k + 1:=by omega
 have htl:((l.length:Int) + 1).toNat=l.length + 1:=by omega
 have hb0:(0:Int)≤(k:Int) + 1:=by omega
 have hb1:(k:Int) + 1≤(l.length:Int) + 1:=by omega
 have hb2:(k:Int)≤(l.length:Int) + 1:=by omega
 have hb3:(k:Int)≤(l.length:Int):=by omega
 have hb4:(0:Int)≤(l.length:Int) + 1:=by omega
 have hsrc:∀ W:World,W.heap[g]? = w.heap[g]?→∀ j u,(Q8 (l.drop k))[j]? = some u→W.cell? ((⟨g,k * 1,none⟩:Addr).add j)=some u:=fun W hW j u hu=>by
  rw[z1m,cell_of_block hW];have hlt:j < (Q8 (l.drop k)).length:=(List.getElem?_eq_some_iff.1 hu).1;have e:(Q8 (l.drop k))[j]? = cur[k * 1 + j]?:=by
   rw[← q3k,← ht,List.getElem?_drop,List.getElem?_take,if_pos (by omega),Array.getElem?_toList]
  rw[e] at hu;exact(cell_of_row w g _ cur _ _ hg).trans hu
 by_cases hroom:cap < l.length + 1
 ·as_aux_lemma =>
  have hrz3:(cap:Int) < (l.length:Int) + 1:=by omega
  have hkk:(l.length:Int) + 1 - (k:Int)=((l.length + 1 - k:Nat):Int):=by omega
  have hik:k + (l.length + 1 - k)=l.length + 1:=by omega
  have hold:(Builtin.firstCells i0.size k (.slice (some ⟨g,0,none⟩) k cap)).run prog w.drew=.ok (Q8 (l.take k)).toArray w.drew:=by
   rw[hz1];exact run_firstCells_some w.drew 1 k ⟨g,0,none⟩ k cap (Q8 (l.take k)) (by rw[z0u,List.length_take,Nat.min_eq_left hk]) (fun j u hj=>by
    rw[z1m,Nat.zero_add];rw[← htk,List.getElem?_take] at hj
    split at hj
    ·exact(cell_of_row w g _ cur _ _ hg).trans (by simpa using hj)
    ·cases hj)
  obtain⟨G,hG⟩:∃ G,G=grownCap w (l.length + 1) cap 9:=⟨_,rfl⟩;obtain⟨ROW,hROW⟩:∃ ROW:Array Value,ROW=(Q8 (l.take k)).toArray++Builtin.zeroCells ((.string ⟨#[]⟩):Value).cells (l.length + 1 - k)++Builtin.zeroCells ((.string ⟨#[]⟩):Value).cells (G - (l.length + 1)):=⟨_,rfl⟩;have hrz:∀ ty,(Builtin.append_ #[24,3] ty #[.slice (some ⟨g,0,none⟩) k cap,.int .i64 ((l.length:Int) + 1 - (k:Int))]).run prog w=.ok (.slice (some ⟨w.heap.size,0,none⟩) (l.length + 1) G) (w.drew.alloc (.cells ROW 9)):=fun ty=>by
   have hh:=Lib.run_append_grow_zeros w 24 3 ty 9 i0 _ .i64 .i64 underlying24 underlying3 hi hz0 (some ⟨g,0,none⟩) k cap (Q8 (l.take k)) hold (l.length + 1 - k) (by omega) (by rw[hz1];decide) (by omega) (by omega) (by rw[hz2];omega) (by rw[hz2,hik];exact growslice_fits hroom (by omega));rw[hik,← hG,← hROW] at hh;rw[hkk];exact hh
  have hGn:l.length + 1≤G:=by rw[hG];exact grownCap_ge w _ _ _
  have hGm:G≤maxLen:=by rw[hG];exact grownCap_le_maxLen w _ _ _ (by unfold maxLen;omega)
  have hG63:G≤9223372036854775807:=by unfold maxLen at hGm;omega
  have hRs:ROW.size=G * 1:=by
   rw[hROW];simp only [Array.size_append,List.size_toArray,size_zeroCells,z0u,List.length_take,show ((.string ⟨#[]⟩):Value).cells.size=1 from rfl];omega
  have hRt:ROW.toList.take (k * 1)=Q8 (l.take k):=by
   rw[hROW];simp only [Array.toList_append,List.append_assoc];rw[List.take_append_of_le_length (by rw[z0u,List.length_take];omega)];exact List.take_of_length_le (by rw[z0u,List.length_take];omega)
  have hRl:ROW.toList.length=G * 1:=by rw[Array.length_toList];exact hRs
  obtain⟨R1,hR1⟩:∃ R1,R1=(ROW.toList.take (k * 1)++[Value.string (st x)]++ROW.toList.drop (k * 1 + ([Value.string (st x)]:List Value).length)).toArray:=⟨_,rfl⟩;have hR1l:R1.toList.length=G * 1:=by
   rw[hR1];simp only [List.length_append,List.length_take,List.length_drop,hRl,hone];omega
  have hR1s:R1.size=G * 1:=by rw[← Array.length_toList];exact hR1l
  obtain⟨R2,hR2⟩:∃ R2,R2=(R1.toList.take ((k + 1) * 1)++Q8 (l.drop k)++R1.toList.drop ((k + 1) * 1 + (Q8 (l.drop k)).length)).toArray:=⟨_,rfl⟩;have hN0:∀ (o:Obj) (W:World),W.heap=(w.alloc o).heap→W.heap[w.heap.size]? = some o:=fun o W e=>by rw[e];exact heap_alloc_new w o
  have hcpA:∀ (W:World),W.heap=(w.alloc (.cells ROW 9)).heap→∀ ty dc,(Builtin.copy_ #[24,24] ty #[.slice (some ⟨w.heap.size,k * 1,none⟩) (l.length + 1 - k) dc,.slice (some ⟨V,0,none⟩) 1 1]).run prog W=.ok (goInt 1) (W.setRow w.heap.size R1):=fun W hW ty dc=>by
   have hh:=z0t (P:=prog) W 24 24 ty 9 1 w.heap.size (k * 1) (l.length + 1 - k) dc ⟨V,0,none⟩ 1 1 ROW 9 [Value.string (st x)] underlying24 hsz (hN0 _ W hW) (by rw[hone,show Nat.min 1 (l.length + 1 - k)=1 from Nat.min_eq_left (by omega)]) (HN.out W (by rw[hW];exact Below.heap_alloc w _ V hVw)) (by rw[hone,hRs];omega) HO.out;rw[show Nat.min 1 (l.length + 1 - k)=1 from Nat.min_eq_left (by omega),← hR1] at hh;exact hh
  have hcpB:∀ (W:World),W.heap=((w.alloc (.cells ROW 9)).setRow w.heap.size R1).heap→∀ ty dc sc,(Builtin.copy_ #[24,24] ty #[.slice (some ⟨w.heap.size,(k + 1) * 1,none⟩) (l.length - k) dc,.slice (some ⟨g,k * 1,none⟩) (l.length - k) sc]).run prog W=.ok (goInt ((l.length - k:Nat):Int)) (W.setRow w.heap.size R2):=fun W hW ty dc sc=>by
   have hh:=z0t (P:=prog) W 24 24 ty 9 1 w.heap.size ((k + 1) * 1) (l.length - k) dc ⟨g,k * 1,none⟩ (l.length - k) sc R1 9 (Q8 (l.drop k)) underlying24 hsz (by rw[hW];exact setRow_heap (w.alloc (.cells ROW 9)) w.heap.size ROW R1 _ _ (heap_alloc_new w _)) (by rw[hdl,show Nat.min (l.length - k) (l.length - k)=l.length - k from Nat.min_eq_left (by omega)]) (hsrc W (by rw[hW,setRow_other _ _ g R1 (by omega)];exact Below.heap_alloc w _ g hgw)) (by rw[hdl,hR1s];omega) hmd.out;rw[show Nat.min (l.length - k) (l.length - k)=l.length - k from Nat.min_eq_left (by omega),← hR2] at hh;exact hh
  have FIN:Hid (∀ W:World,W.heap=(((w.alloc (.cells ROW 9)).setRow w.heap.size R1).setRow w.heap.size R2).heap→W.ownsRow B 9 1 (.slice (some ⟨w.heap.size,0,none⟩) (l.length + 1) G) (l.take k++x :: l.drop k).length (Q8 (l.take k++x :: l.drop k))):=by
   intro W hW;rw[hlen];refine z5r hB (by rw[hW];exact setRow_heap _ _ R1 R2 _ _ (setRow_heap (w.alloc (.cells ROW 9)) w.heap.size ROW R1 _ _ (heap_alloc_new w _))) ?_ hGn hGm ?_
   ·rw[hR2]
    simp only [List.size_toArray,List.length_append,List.length_take,List.length_drop,hR1l,hdl];omega
   ·have e1:R1.toList.take ((k + 1) * 1)=Q8 (l.take k)++[Value.string (st x)]:=by
     rw[hR1,hRt];show List.take _ (_++_++_)=_;rw[List.take_append_of_le_length (by rw[List.length_append,z0u,List.length_take,hone];omega)];exact List.take_of_length_le (by rw[List.length_append,z0u,List.length_take,hone];omega)
    rw[hR2,e1];show List.take _ (_++_++_)=_;have e2:Q8 (l.take k++x :: l.drop k)=Q8 (l.take k)++[Value.string (st x)]++Q8 (l.drop k):=by
     rw[z6r,show Q8 (x :: l.drop k)=[Value.string (st x)]++Q8 (l.drop k) from rfl,List.append_assoc]
    have hl2:(Q8 (l.take k++x :: l.drop k)).length=(l.length + 1) * 1:=by rw[z0u,hlen]
    rw[← e2,List.take_append_of_le_length (by omega)];exact List.take_of_length_le (by omega)
  have hGk:¬ (G=k):=by omega
  have hGk1:¬ (G=k + 1):=by omega
  have AW:Hid (∀ W1 W2 W3 W4:World,W1=(w.alloc (.cells ROW 9)).drew→W2=W1.setRow w.heap.size R1→W3=W2.drew→W4=W3.setRow w.heap.size R2→Ap (fun b=>(Value.slice (some ⟨g,0,none⟩) l.length cap).ownBlock=some b) w W4):=by
   rintro W1 W2 W3 W4 rfl rfl rfl rfl;have b1:Below w.heap.size w (w.alloc (.cells ROW 9)).drew:=((Below.refl w.heap.size w).alloc (Lr) _).drew;have sr:∀ (W:World) (R:Array Value),Below w.heap.size w W→Below w.heap.size w (W.setRow w.heap.size R):=fun W R q=>⟨q.os,q.tape,q.output,by have:=q.size;simpa [World.setRow] using this,fun b hb=>(setRow_other W w.heap.size b R (by omega)).trans (q.block b hb)⟩
   exact Ap.of_below (sr _ _ (sr _ _ b1).drew)
  have hcl0:¬ (l.length=0):=by omega
  clear hROW hR1 hR2 hRs hRt hRl hR1l hR1s hG hkk hik hold hN0 h hsrc hct hcs ht htk hdl hlen hV hg hz0 hz1 hz2 hi;have hE1:((w.alloc (.cells ROW 9)).drew).heap=(w.alloc (.cells ROW 9)).heap:=rfl;have hF1:(((w.alloc (.cells ROW 9)).drew.setRow w.heap.size R1).drew).heap=((w.alloc (.cells ROW 9)).setRow w.heap.size R1).heap:=rfl;have hrz':∀ ty,(Builtin.append_ #[24,3] ty #[.slice (some ⟨g,0,none⟩) k cap,.int .i64 ((l.length:Int) + 1 - (k:Int))]).run prog w=.ok (.slice (some ⟨w.heap.size,0,none⟩) (l.length + 1) G) ((w.alloc (.cells ROW 9)).drew):=hrz;have hA2:=fun ty dc=>hcpA _ hE1 ty dc
  have hB2:=fun ty dc sc=>hcpB _ hF1 ty dc sc
  clear hcpA hcpB hrz;simp only [Nat.mul_one] at hA2 hB2;go_enter func88,ntmps88;go_wp2_with (first
   | (at_builtin;refine Lib.wpList_append_run _ rfl _ _ _ _ rfl _ _ rfl rfl _ _ (hrz' _) ?_)
   | (at_builtin;refine wpList_copy_run _ rfl _ _ 24 24 rfl _ _ rfl rfl (hA2 _ _) ?_))
  go_region_held3 (fun _=>True) (exact trivial) (first | (refine z3f rfl _ _ 24 24 rfl (.slice (some ⟨w.heap.size,(k + 1),none⟩) (l.length - k) (G - (k + 1))) (.slice (some ⟨g,k,none⟩) (l.length - k) (cap - k)) (by simp[Act.eval,Act.put]) (by simp[Act.eval,Act.put]) (hB2 _ _ _) ?_))
  go_wp2;go_ret;exact⟨_,rfl,FIN.out _ rfl,AW.out _ _ _ _ rfl rfl rfl rfl,.inr rfl⟩
 ·as_aux_lemma =>
  have hrz3:¬ ((cap:Int) < (l.length:Int) + 1):=by omega
  have hc63:(l.length:Int) + 1≤(cap:Int):=by omega
  have hcap63:cap≤9223372036854775807:=by unfold maxLen at hcm;omega
  have hov:∀ lb cb,(callFunc 150 #[.slice (some ⟨V,0,none⟩) 1 1,.slice (some ⟨g,(k + 1),none⟩) lb cb]).run prog w=.ok (.value (.bool false)) w:=fun lb cb=>by
   rw[run_callFunc_extern func150 (by kernel_rfl) (by kernel_rfl) (by kernel_rfl) (e:=Extern.SlicesOverlaps.overlaps #[24,24] #[4]) (by kernel_rfl),
    Lib.run_overlaps_apart w 24 4 9 underlying24 1 (fun _=>by kernel_rfl) ⟨V,0,none⟩ ⟨g,(k + 1),none⟩ 1 1 lb cb (fun e=>hgV e.symm) 9 9 ([Value.string (st x)]:List Value).length cur.size (by simp[World.shape?,show w.heap[V]? = _ from hV]) (by simp[World.shape?,hg]) (by rw[hcs];omega) (hV.frozen 0) (hV.frozen _)]
   rfl
  obtain⟨c1,hc1⟩:∃ c1,c1=(cur.toList.take ((k + 1) * 1)++Q8 (l.drop k)++cur.toList.drop ((k + 1) * 1 + (Q8 (l.drop k)).length)).toArray:=⟨_,rfl⟩;have hc1l:c1.toList.length=cap * 1:=by
   rw[hc1];simp only [List.length_append,List.length_take,List.length_drop,hct,hdl];omega
  have hc1s:c1.size=cap * 1:=by rw[← Array.length_toList];exact hc1l
  obtain⟨c2,hc2⟩:∃ c2,c2=(c1.toList.take (k * 1)++[Value.string (st x)]++c1.toList.drop (k * 1 + ([Value.string (st x)]:List Value).length)).toArray:=⟨_,rfl⟩;have hcpA:∀ (W:World),W.heap=w.heap→∀ ty dc sc,(Builtin.copy_ #[24,24] ty #[.slice (some ⟨g,(k + 1) * 1,none⟩) (l.length - k) dc,.slice (some ⟨g,k * 1,none⟩) (l.length + 1 - k) sc]).run prog W=.ok (goInt ((l.length - k:Nat):Int)) (W.setRow g c1):=fun W hW ty dc sc=>by
   have hm:Nat.min (l.length + 1 - k) (l.length - k)=l.length - k:=Nat.min_eq_right (by omega);have hh:=z0t (P:=prog) W 24 24 ty 9 1 g ((k + 1) * 1) (l.length - k) dc ⟨g,k * 1,none⟩ (l.length + 1 - k) sc cur 9 (Q8 (l.drop k)) underlying24 hsz (by rw[hW];exact hg) (by rw[hdl,hm]) (hsrc W (by rw[hW])) (by rw[hdl,hcs];omega) hmd.out;rw[hm,← hc1] at hh;exact hh
  have hcpB:∀ (W:World),W.heap=(w.setRow g c1).heap→∀ ty dc,(Builtin.copy_ #[24,24] ty #[.slice (some ⟨g,k * 1,none⟩) (l.length + 1 - k) dc,.slice (some ⟨V,0,none⟩) 1 1]).run prog W=.ok (goInt 1) (W.setRow g c2):=fun W hW ty dc=>by
   have hm:Nat.min 1 (l.length + 1 - k)=1:=Nat.min_eq_left (by omega);have hh:=z0t (P:=prog) W 24 24 ty 9 1 g (k * 1) (l.length + 1 - k) dc ⟨V,0,none⟩ 1 1 c1 9 [Value.string (st x)] underlying24 hsz (by rw[hW];exact setRow_heap w g cur c1 _ _ hg) (by rw[hone,hm]) (HN.out W (by rw[hW];exact setRow_other w g V c1 (fun e=>hgV e.symm))) (by rw[hone,hc1s];omega) HO.out;rw[hm,← hc2] at hh;exact hh
  have FIN:Hid (∀ W:World,W.heap=((w.setRow g c1).setRow g c2).heap→W.ownsRow B 9 1 (.slice (some ⟨g,0,none⟩) (l.length + 1) cap) (l.take k++x :: l.drop k).length (Q8 (l.take k++x :: l.drop k))):=by
   intro W hW;rw[hlen];refine z5r hBg (by rw[hW];exact setRow_heap _ _ c1 c2 _ _ (setRow_heap w g cur c1 _ _ hg)) ?_ (by omega) hcm ?_
   ·rw[hc2]
    simp only [List.size_toArray,List.length_append,List.length_take,List.length_drop,hc1l,hone];omega
   ·have e0:c1.toList.take (k * 1)=Q8 (l.take k):=by
     rw[hc1];show List.take _ (_++_++_)=_;rw[List.append_assoc,List.take_append_of_le_length (by rw[List.length_take,hct];omega),List.take_take,Nat.min_eq_left (by omega)];exact htk
    have e1:c1.toList.drop (k * 1 + ([Value.string (st x)]:List Value).length)=Q8 (l.drop k)++cur.toList.drop ((k + 1) * 1 + (Q8 (l.drop k)).length):=by
     rw[hc1,hone,show k * 1 + 1 * 1=(k + 1) * 1 by omega];show List.drop _ (_++_++_)=_;rw[List.append_assoc];have hl3:(cur.toList.take ((k + 1) * 1)).length=(k + 1) * 1:=by rw[List.length_take,hct];omega
     conv=>lhs;arg 1;rw[← hl3]
     exact List.drop_left
    rw[hc2,e0,e1,← htk];exact j2c cur.toList l k x hk htk (by rw[hct];omega)
  have AW:Hid (∀ W1 W2 W3:World,W1=w.drew→W2=W1.setRow g c1→W3=W2.setRow g c2→Ap (fun b=>(Value.slice (some ⟨g,0,none⟩) l.length cap).ownBlock=some b) w W3):=by
   rintro W1 W2 W3 rfl rfl rfl;exact(((Ap.refl (fun b=>(Value.slice (some ⟨g,0,none⟩) l.length cap).ownBlock=some b) w).drew).setRow (g:=g) rfl _).setRow (g:=g) rfl _
  have hk1c2:¬ cap=k + 1:=by omega
  clear hc1 hc2 hc1l hc1s h hsrc hct hcs ht htk hdl hlen hV hg hz0 hz1 hz2 hi;have hA2:=fun ty dc sc=>hcpA w.drew rfl ty dc sc
  have hB2:=fun ty dc=>hcpB (w.drew.setRow g c1) rfl ty dc
  clear hcpA hcpB;simp only [Nat.mul_one] at hA2 hB2;go_enter func88,ntmps88;go_wp2_with (simp only [hov])
  go_region_held3 (fun _=>True) (exact trivial) (first | (refine z3f rfl _ _ 24 24 rfl (.slice (some ⟨g,(k + 1),none⟩) (l.length - k) (cap - (k + 1))) (.slice (some ⟨g,k,none⟩) (l.length + 1 - k) (cap - k)) (by simp[Act.eval,Act.put]) (by simp[Act.eval,Act.put]) (hA2 _ _ _) ?_))
  go_wp2_with (at_builtin;refine wpList_copy_run _ rfl _ _ 24 24 rfl _ _ rfl rfl (hB2 _ _) ?_);go_ret;exact⟨_,rfl,FIN.out _ rfl,AW.out _ _ _ rfl rfl rfl,.inl rfl⟩
end Go.Proofs.YtjonkbdldebkiaaGreatDoor
