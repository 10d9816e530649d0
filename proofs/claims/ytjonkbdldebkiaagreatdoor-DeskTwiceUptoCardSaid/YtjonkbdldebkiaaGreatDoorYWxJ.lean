/- Contracts of the strict reader's text (a text behind others) and of its method plain. Condition: a text of at most 100000 bytes. -/
import Derived.Test.YtjonkbdldebkiaaGreatDoorYWxB
import Derived.Test.YtjonkbdldebkiaaGreatDoorYMkClean4
import Derived.Test.YtjonkbdldebkiaaGreatDoorYWeA
import Derived.Deep.RegionHeld3
import Derived.Test.YtjonkbdldebkiaaGreatDoorYWsA
import Derived.Test.YtjonkbdldebkiaaGreatDoorYMkClean5
import Derived.Test.YtjonkbdldebkiaaGreatDoorYMkRep3
import Derived.Test.YtjonkbdldebkiaaGreatDoorYMkHtml
import Derived.Test.YtjonkbdldebkiaaGreatDoorYMkSame
import Derived.Test.YtjonkbdldebkiaaGreatDoorYUrlPlain
import Derived.Test.YtjonkbdldebkiaaGreatDoorYMkRep6
set_option linter.unusedVariables false
set_option linter.unusedSimpArgs false
set_option maxHeartbeats 8000000
set_option maxRecDepth 100000
namespace Fd
open Mk
theorem j6m (c:UInt8) (t:Bs):Mg.pre [60] (c :: t)=(c == 60):=by
 unfold Mg.pre;rw[Bool.eq_iff_iff];simp
theorem j4e:∀ l:Bs,(z0c [60] l=none∧Go.Lib.indexByte l 60 = -1)∨∃ i:Nat,Go.Lib.indexByte l 60=i∧i < l.length∧z0c [60] l=some (l.take i,l.drop (i + 1))
 | []=>.inl ⟨rfl,rfl⟩
 | c :: t=>by
  unfold z0c Go.Lib.indexByte;rw[j6m]
  cases h:c == 60 with
  | true=>exact .inr ⟨0,by first | rfl | simp,by simp,by simp⟩
  | false =>
   have hge:=Go.Lib.indexByte_ge t 60
   rcases j4e t with ⟨h1,h2⟩ | ⟨i,h1,h2,h3⟩
   ·refine .inl ⟨by simp[h1],by simp[h2]⟩
   ·refine .inr ⟨i + 1,?_,by simp;omega,by simp[h3]⟩
    rw[h1];simp <;> omega
end Fd
namespace Go.Proofs.YtjonkbdldebkiaaGreatDoor
open Go.Proofs.Tryz Go.RowKit
theorem j7x (f:Mk.Fo) (t:List UInt8) (v:Value) (B:Nat) (K:Nat→Prop) (xs:List Value) (w:World) (hF:OwnF w B K v f xs) (hB:B≤w.heap.size) (hl:f.bulk + t.length≤1099511627776) :
  Calls prog 255 #[v,.string (st t)] w fun e w'=>∃ v' xs',e=.returned v'∧OwnF w' B K v' (Fd.z9i f t) xs'∧Ap (fun b=>v.ownBlock=some b) w w'∧q17 w v v':=by
 have hst:∀ l:List UInt8,(st l).toList=l:=fun l=>Lib.toList_data _
 have HTX:Hid (Fd.z9i f t=if t=[] then f else Mk.Fo.snoc [] [] t .nil f):=rfl;obtain⟨ao0,cap0,hu0⟩:=Z9 hF.own;subst hu0;have HF:=Ld hF;generalize Fd.z9i f t=out at HTX ⊢;clear hF
 rcases z3c t with ⟨e1,e2⟩ | ⟨e1,e2⟩
 ·rw[if_pos e1] at HTX
  clear e1;go_enter func255,ntmps255;go_wp2_with fail;go_ret;exact⟨_,_,rfl,by rw[HTX.out];exact HF.out,Ap.refl _ _,.inl rfl⟩
 rw[if_neg e1] at HTX;clear e1;have hfl:=Mk.Fo.z1r f;have htl:=Mk.Fo.z7a f;go_enter func255,ntmps255;go_upto_region 4 with fail
 go_cut [21] (fun b wx=>b=.bool (f.merges [])∧w=wx)
 case first =>
  as_aux_lemma =>
  by_cases hf0:f=.nil
  ·have HM:Hid (f.merges []=false):=by show _=_;rw[hf0,Mk.Fo.z4u]
   have hl0:¬ 0 < f.len:=by rw[hf0];simp[Mk.Fo.len]
   clear hf0;go_wp2_with fail;go_meet
   case rel=>exact⟨by rw[HM.out],rfl⟩
  ·obtain⟨g0,capz,hz,d1,d2,df⟩:=HF.out.last hf0
   injection hz with z1 z2 z3;subst z1;subst z3;have hl0:0 < f.len:=z3i f hf0;obtain⟨j,hj⟩:∃ j,j=f.len - 1:=⟨_,rfl⟩;rw[← hj] at d1;have hj1:(f.len:Int) - 1=j:=by omega
   have hj2:(j:Int) < f.len:=by omega
   have hj3:(0:Int)≤j:=by omega
   have hbl:f.z6a=[]∨f.z6a.isEmpty=false:=by
    cases f.z6a with
    | nil=>exact .inl rfl
    | cons _ _=>exact .inr rfl
   have HF0:=Ld hf0;clear hj d2 df hf0
   rcases hbl with h1 | h1
   ·have HM:Hid (f.merges []=true):=(Mk.Fo.z3e _ _).2 ⟨rfl,HF0.out,h1⟩
    have he1:f.z6a.isEmpty=true:=by rw[h1];rfl
    clear h1;go_wp2_with fail;go_meet
    case rel=>exact⟨by rw[HM.out],rfl⟩
   ·have HM:Hid (f.merges []=false):=by
     show _=_;rw[Bool.eq_false_iff];intro q;rw[((Mk.Fo.z3e _ _).1 q).2.2] at h1;cases h1
    go_wp2_with fail;go_meet
    case rel=>exact⟨by rw[HM.out],rfl⟩
 case rest =>
  as_aux_lemma =>
  obtain⟨rfl,hw⟩:=hcut;subst hw;obtain⟨mb,hmb⟩:∃ mb,f.merges []=mb:=⟨_,rfl⟩;rw[hmb];have HMB:=Ld hmb;clear hmb
  cases mb with
  | true =>
   have hq:=(Mk.Fo.z3e _ _).1 HMB.out;obtain⟨g0,capz,hz,d1,d2,df⟩:=HF.out.last hq.2.1;injection hz with z1 z2 z3;subst z1;subst z3;have hl0:0 < f.len:=z3i f hq.2.1;have OFM:=Ld (HF.out.merged [] t .nil HMB.out (g:=g0) rfl);obtain⟨j,hj⟩:∃ j,j=f.len - 1:=⟨_,rfl⟩;rw[← hj] at d1 d2 OFM;have hj1:(f.len:Int) - 1=j:=by omega
   have hj2:(j:Int) < f.len:=by omega
   have hj3:(0:Int)≤j:=by omega
   have df2:=df (j * 4 + 2);have q1:¬ 9223372036854775807 < (st f.lastT).size + (st t).size:=by rw[Z4,Z4];omega
   clear hj hq df;go_wp2_with fail;rw[show st f.lastT++st t=st (f.lastT++t) from z3m (st f.lastT) (st t)];have OFM2:Hid (OwnF (w.setCell ⟨g0,j * 4 + 2,none⟩ (.string (st (f.lastT++t)))) B K (.slice (some ⟨g0,0,none⟩) f.len cap0) (Mk.Fo.snoc [] [] t .nil f) (xs.set (4 * j + 2) (.string (st (f.lastT++t))))):=by
    have:=OFM.out;rw[Nat.mul_comm 4 j] at this;rw[Nat.mul_comm 4 j];exact this
   go_ret;exact⟨_,rfl,⟨_,by rw[HTX.out];exact OFM2.out⟩,(Ap.refl (fun b=>(Value.slice (some ⟨g0,0,none⟩) f.len cap0).ownBlock=some b) w).setCell (p:=⟨g0,j * 4 + 2,none⟩) rfl _,.inl rfl⟩
  | false =>
   obtain⟨i0,hi,hz0,hz1,hz2⟩:=info_parts Tryz.infoNode;have ow10:=z0f HF.out.own ((Ap.refl (fun _=>False) w).alloc (.cells #[.string ⟨#[]⟩,.slice none 0 0,.string (st t),.slice none 0 0] 53)) (fun _ _ q=>q);have hal2:=(Below.refl w.heap.size w).alloc (Lr) (.cells #[.string ⟨#[]⟩,.slice none 0 0,.string (st t),.slice none 0 0] 53);have hlf:f.len≤1099511627776:=by omega
   go_wp2_with (at_builtin;refine J3 rfl _ _ 51 rfl B 53 i0 (.agg #[.string ⟨#[]⟩,.slice none 0 0,.string ⟨#[]⟩,.slice none 0 0]) 4 80 underlying51 hi hz0 hz1 hz2 rfl (by decide) _ _ _ rfl ow10 ⟨w.heap.size,0,none⟩ 1 1 [.string ⟨#[]⟩,.slice none 0 0,.string (st t),.slice none 0 0] rfl rfl (z0h _ _ _) (by intro u hu;simp at hu;rcases hu with rfl | rfl | rfl | rfl <;> rfl) (by decide) (by unfold maxLen;omega) (by omega) (by simp;omega) ?_);intro v' w2 hown' hgrow hfresh;have hfr2:v'.ownBlock=(Value.slice ao0 f.len cap0).ownBlock∨v'.ownBlock=some (w.alloc (.cells #[.string ⟨#[]⟩,.slice none 0 0,.string (st t),.slice none 0 0] 53)).heap.size:=hfresh.imp id (fun e=>by rw[e];simp);have OFP:=Ld (HF.out.pushed (n:=[]) (a:=[]) (t:=t) (k:=.nil) (ao:=none) (cap:=0) (AtsV.nil w K) (.inl rfl:z19 w K none []) (Nat.zero_le _) rfl HMB.out hal2 hown' hgrow hfr2);have APP:Hid (Ap (fun b=>(Value.slice ao0 f.len cap0).ownBlock=some b) w w2) :=
    ((Ap.refl _ w).alloc (.cells #[.string ⟨#[]⟩,.slice none 0 0,.string (st t),.slice none 0 0] 53)).grown hgrow (fun b hb e=>e)
   have FRP:Hid (q17 w (Value.slice ao0 f.len cap0) v'):=by
    rcases hfr2 with e | e
    ·exact .inl e
    ·exact .inr ⟨_,e,by simp⟩
   clear hown' hgrow hfresh hfr2 ow10 hal2;go_wp2_with fail;go_ret;exact⟨_,_,rfl,by rw[HTX.out];exact OFP.out,APP.out,FRP.out⟩
section
variable {w w' : World} {R : Nat} {s : ByteArray} {k : Nat}
theorem j4d (s:ByteArray) (w:World):Calls prog 230 #[.string s,.int .u8 60] w fun e w'=>e=.returned (.int .i64 (Lib.indexByte s.data.toList 60))∧w'=w :=
 (Tryz.strings_IndexByte s 60 w).mono fun e w' ⟨he,hw⟩=>⟨he,hw⟩
theorem xr_plain (hg:Gl w) (hR:4 < R) (h:Xr w R s k) (hk:k≤s.size) (hs:s.size≤100000) :
  Calls prog 256 #[.pointer (some ⟨R,0,none⟩)] w fun e w' =>
   (Fd.z0c [60] (s.data.toList.drop k)=none∧e=GaveX 1∧Ap (fun b=>b=R) w w')∨∃ a y,Fd.z0c [60] (s.data.toList.drop k)=some (a,y)∧e=.returned (.string (st a))∧k + a.length≤s.size∧Xr w' R s (k + a.length)∧Moved R w w':=by
 have c0:=h.c0;have c1:=h.c1;have f1:=h.fz 1;have HX:=Ld h;have HG:=Ld hg;have hk1:(k:Int)≤s.size:=by omega
 have hd:(s.extract k s.size).data.toList=s.data.toList.drop k:=by rw[Y1,z1o,List.take_of_length_le (by rw[List.length_drop,bs_len];omega)]
 have hc:=fun W=>j4d (s.extract k s.size) W
 rw[hd] at hc;have hz:(s.data.toList.drop k).length=s.size - k:=by rw[List.length_drop,bs_len]
 have hx0:s.extract k s.size=st (s.data.toList.drop k):=by rw[Y1,List.take_of_length_le (by rw[hz];omega)]
 have HTO:=Ld (fun (W:World) (hW:Gl W)=>q96 (s.data.toList.drop k) W (by rw[hz];omega) hW);have H60:=Ld (Fd.j4e (s.data.toList.drop k));have HZ:=Ld hz;have HX0:=Ld hx0;generalize Lib.indexByte (s.data.toList.drop k) 60=ix at hc H60;have HC:=Ld hc;clear hc hd h hg hz hx0
 rcases H60.out with ⟨h1,h2⟩ | ⟨i,h1,h2,h3⟩
 ·subst h2
  have HE:=Ld h1;clear h1 H60;go_enter func256,ntmps256;go_wp2_with fail
  go_quiet ((go_at_call 230;exact Calls.quiet_of_same (HC.out _)))
  go_wp2_with fail;have X1:=Ld (HX.out.drewN nq);have AP1:=Ld ((Ap.refl (fun b=>b=R) w).drewN nq);have GL1:=Ld (HG.out.drewN nq);generalize w.drewN nq=w1 at X1 AP1 GL1 ⊢;have HRW:=Ld (Blk.lt X1.out);have HCC:Hid ((w1.drew.cell? ⟨R,0,none⟩=some (.string s)∧w1.drew.cell? ⟨R,1,none⟩=some (.int .i64 k))∧∀ W,Below w1.heap.size w1.drew W→(W.cell? ⟨R,0,none⟩=some (.string s)∧W.cell? ⟨R,1,none⟩=some (.int .i64 k))) :=
   ⟨⟨Xr.c0 (Blk.drew X1.out),Xr.c1 (Blk.drew X1.out)⟩,fun W hW=>⟨Xr.c0 (Blk.below (Blk.drew X1.out) hW HRW.out),Xr.c1 (Blk.below (Blk.drew X1.out) hW HRW.out)⟩⟩
  have hto:=HTO.out w1.drew GL1.out.drew;rw[← HX0.out] at hto;clear HTO HC GL1 c0 c1 f1;obtain⟨bt,hbt⟩:∃ bt,(Mk.take (s.data.toList.drop k)).2=bt:=⟨_,rfl⟩;rw[hbt] at hto;clear hbt
  cases bt with
  | false =>
   have HT3:Hid (Calls prog 253 #[.string (s.extract k s.size)] w1.drew fun e w'=>e=GaveX 1∧Below w1.heap.size w1.drew w'):=hto.mono (by
    rintro e w' ⟨h1,⟨h2,_⟩ | ⟨_,h3⟩⟩
    ·cases h2
    ·exact⟨h3,h1⟩)
   clear hto;go_upto_region 3 with fail;refine wp_region_held_drew (S:=fun w'=>w'.cell? ⟨R,0,none⟩=some (.string s)∧w'.cell? ⟨R,1,none⟩=some (.int .i64 k)) (by kernel_rfl) HCC.out.1 (fun hHeld=>?_);refine wpAnyH_take (i:=0) rfl (by kernel_rfl) (by kernel_rfl) (by kernel_rfl) (fun _ _ _ h=>h) (Or.inl ⟨by rfl,by (intro w hSw;(try dsimp only at hSw);go_simp;try with_reducible rfl)⟩) (by assumption) ?_
   (try simp only [Act.put,List.setIfInBounds_toArray,List.set_cons_zero,List.set_cons_succ])
   refine wpAnyH_take (i:=1) rfl (by kernel_rfl) (by kernel_rfl) (by kernel_rfl) (fun _ _ _ h=>h) (Or.inl ⟨by rfl,by (intro w hSw;(try dsimp only at hSw);go_simp;try with_reducible rfl)⟩) (by assumption) ?_
   (try simp only [Act.put,List.setIfInBounds_toArray,List.set_cons_zero,List.set_cons_succ])
   refine wpAnyH_take (i:=2) rfl (by kernel_rfl) (by kernel_rfl) (by kernel_rfl) (fun _ _ _ h=>h) (Or.inl ⟨by rfl,by (intro w hSw;(try dsimp only at hSw);go_simp;try with_reducible rfl)⟩) (by assumption) ?_
   (try simp only [Act.put,List.setIfInBounds_toArray,List.set_cons_zero,List.set_cons_succ])
   refine wpAnyH_take (i:=3) rfl (by kernel_rfl) (by kernel_rfl) (by kernel_rfl) (fun _ _ _ h=>h) (Or.inl ⟨by rfl,by (intro w hSw;(try dsimp only at hSw);go_simp;try with_reducible rfl)⟩) (by assumption) ?_
   (try simp only [Act.put,List.setIfInBounds_toArray,List.set_cons_zero,List.set_cons_succ])
   refine wpAnyH_take (i:=4) rfl (by kernel_rfl) (by kernel_rfl) (by kernel_rfl) (fun _ _ _ h=>h) (Or.inl ⟨by rfl,by (intro w hSw;(try dsimp only at hSw);go_simp;try with_reducible rfl)⟩) (by assumption) ?_
   (try simp only [Act.put,List.setIfInBounds_toArray,List.set_cons_zero,List.set_cons_succ])
   refine wpAnyH_take (i:=5) rfl (by kernel_rfl) (by kernel_rfl) (by kernel_rfl) (fun _ _ _ h=>h) (Or.inl ⟨by rfl,by (intro w hSw;(try dsimp only at hSw);go_simp;try with_reducible rfl)⟩) (by assumption) ?_
   (try simp only [Act.put,List.setIfInBounds_toArray,List.set_cons_zero,List.set_cons_succ])
   refine wpAnyH_take (i:=6) rfl (by kernel_rfl) (by kernel_rfl) (by kernel_rfl) (fun _ _ _ h=>h) (Or.inl ⟨by rfl,by (intro w hSw;(try dsimp only at hSw);go_simp;try with_reducible rfl)⟩) (by assumption) ?_
   (try simp only [Act.put,List.setIfInBounds_toArray,List.set_cons_zero,List.set_cons_succ])
   refine wpAnyH_take (i:=7) rfl (by kernel_rfl) (by kernel_rfl) (by kernel_rfl) (fun _ _ _ h=>h) (Or.inl ⟨by rfl,by (intro w hSw;(try dsimp only at hSw);go_simp;try with_reducible rfl)⟩) (by assumption) ?_
   (try simp only [Act.put,List.setIfInBounds_toArray,List.set_cons_zero,List.set_cons_succ])
   refine wpAnyH_take (i:=8) rfl (by kernel_rfl) (by kernel_rfl) (by kernel_rfl) (fun _ _ _ h=>h) (Or.inl ⟨by rfl,by (intro w hSw;(try dsimp only at hSw);go_simp;try with_reducible rfl)⟩) (by assumption) ?_
   (try simp only [Act.put,List.setIfInBounds_toArray,List.set_cons_zero,List.set_cons_succ])
   refine wpAnyH_ready (rs:=[9]) (by kernel_rfl) (by simp) ?_;refine AllReadyH.cons rfl (fun K hK=>?_) AllReadyH.nil
   go_simp
   refine HT3.out.mono ?_;rintro e w3 ⟨rfl,hb3⟩;exact⟨rfl,.inl ⟨HE.out,rfl,AP1.out.drew.trans (Ap.of_below hb3)⟩⟩
  | true =>
   have HT3:Hid (Calls prog 253 #[.string (s.extract k s.size)] w1.drew fun e w'=>(∃ v,e=.returned v)∧Below w1.heap.size w1.drew w'):=hto.mono (by
    rintro e w' ⟨h1,⟨_,h2⟩ | ⟨h3,_⟩⟩
    ·exact⟨⟨_,h2⟩,h1⟩
    ·cases h3)
   clear hto
   go_region_held3 (fun w'=>w'.cell? ⟨R,0,none⟩=some (.string s)∧w'.cell? ⟨R,1,none⟩=some (.int .i64 k)) (first
    | exact HCC.out.1
    | exact HCC.out.2 _ hb3) (first | (go_at_call 253;refine HT3.out.mono ?_;rintro e w3 ⟨⟨v3,rfl⟩,hb3⟩))
   all_goals
    go_wp2_with fail;refine(z3x 1 _).mono ?_;rintro e w4 ⟨rfl,hw4⟩;subst w4;go_wp2_with fail;exact⟨rfl,.inl ⟨HE.out,rfl,AP1.out.drew.trans (Ap.of_below hb3)⟩⟩
 ·subst h1
  rw[HZ.out] at h2;have HE:=Ld h3;have hi1:(k:Int) + i≤s.size:=by omega
  have hi2:(i:Int)≤s.size:=by omega
  have hwi:IntKind.i64.wrap ((k:Int) + i)=(k:Int) + i:=by rw[IntKind.wrap_i64];omega
  have hx:s.extract k (k + i)=st ((s.data.toList.drop k).take i):=by rw[Y1,Nat.add_sub_cancel_left]
  have HXX:=Ld hx;have HLE:Hid (((s.data.toList.drop k).take i).length=i):=by show _=_;rw[List.length_take,HZ.out];omega
  clear h3 H60 hx;go_enter func256,ntmps256;go_wp2_with fail
  go_quiet ((go_at_call 230;exact Calls.quiet_of_same (HC.out _)))
  go_wp2_with fail
  go_quiet (fail)
  go_wp2_with fail;rw[HXX.out];go_ret;refine .inr ⟨_,_,HE.out,by rfl,by rw[HLE.out];omega,?_,((Moved.refl R w).drewN _).setCell 1 _⟩;rw[HLE.out,show ((k:Int) + (i:Int))=((k + i:Nat):Int) by omega];exact(HX.out.drewN _).at_ _
end
end Go.Proofs.YtjonkbdldebkiaaGreatDoor
namespace Fd
open Mk
theorem q2y {deep:Int} {s r:Bs} {x:El} (h:z5l deep s=.ok x r):1 + x.name.length + Fo.atB x.ats + Fo.bulk x.kids + 5 * r.length≤5 * s.length:=q2w _ _ _ _ _ h
theorem j2d {n:Bs} (h:z0b n=true):n ≠ []:=by
 unfold z0b at h;rw[Bool.and_eq_true,Bool.and_eq_true,decide_eq_true_iff] at h;exact h.1.2
theorem j7q {s:Bs} {e:Int} (h:z06 s=.er e):e=1:=by
 unfold z06 at h
 split at h
 ·cases h
 ·injection h with h;exact h.symm
theorem elem_n {deep:Int} {s:Bs} {e:Int} (h:z0k [60] s=.er e):z5l deep s=.er e:=by rw[q08,h]
theorem elem_t {deep:Int} {s r:Bs} {u:Unit} {e:Int} (h:z0k [60] s=.ok u r) (h2:z06 r=.er e):z5l deep s=.er e:=by rw[q08,h];simp only;rw[h2]
theorem elem_d {deep:Int} {s r nm z:Bs} {u:Unit} (h:z0k [60] s=.ok u r) (h2:z06 r=.ok nm z) (h3:8 < deep):z5l deep s=.er 2:=by rw[q08,h];simp only;rw[h2];simp only;rw[if_pos h3]
def q4g (deep:Int) (nm z:Bs):Rs El :=
 match z2f z with
 | .er e=>.er e
 | .ok l z =>
  if Mg.pre [47,62] z then .ok ⟨nm,l,.nil⟩ (z.drop 2)
  else match z0k [62] z with
   | .er e=>.er e
   | .ok _ y =>
    match z0q deep y .nil with
    | .er e=>.er e
    | .ok k x =>
     match z06 x with
     | .er e=>.er e
     | .ok nm2 v=>if nm2 ≠ nm then .er 4 else
      match z0k [62] (V8 v) with
      | .er e=>.er e
      | .ok _ o=>.ok ⟨nm,l,k⟩ o
theorem elem_y {deep:Int} {s r nm z:Bs} {u:Unit} (h:z0k [60] s=.ok u r) (h2:z06 r=.ok nm z) (h3:¬ 8 < deep):z5l deep s=q4g deep nm z:=by
 rw[q08,h];simp only;rw[h2];simp only;rw[if_neg h3];rfl
theorem elemY_a {deep:Int} {nm z:Bs} {e:Int} (h:z2f z=.er e):q4g deep nm z=.er e:=by rw[q4g,h]
theorem elemY_c {deep:Int} {nm z y:Bs} {l:List At} (h:z2f z=.ok l y) (h2:Mg.pre [47,62] y=true):q4g deep nm z=.ok ⟨nm,l,.nil⟩ (y.drop 2):=by rw[q4g,h];simp only;rw[if_pos h2]
theorem elemY_n {deep:Int} {nm z y:Bs} {l:List At} {e:Int} (h:z2f z=.ok l y) (h2:Mg.pre [47,62] y=false) (h3:z0k [62] y=.er e):q4g deep nm z=.er e:=by
 rw[q4g,h];simp only;rw[if_neg (by rw[h2];simp),h3]
def q20 (deep:Int) (nm:Bs) (l:List At) (y:Bs):Rs El :=
 match z0q deep y .nil with
 | .er e=>.er e
 | .ok k x =>
  match z06 x with
  | .er e=>.er e
  | .ok nm2 v=>if nm2 ≠ nm then .er 4 else
   match z0k [62] (V8 v) with
   | .er e=>.er e
   | .ok _ o=>.ok ⟨nm,l,k⟩ o
theorem elemY_z {deep:Int} {nm z y x:Bs} {l:List At} {u:Unit} (h:z2f z=.ok l y) (h2:Mg.pre [47,62] y=false) (h3:z0k [62] y=.ok u x):q4g deep nm z=q20 deep nm l x:=by
 rw[q4g,h];simp only;rw[if_neg (by rw[h2];simp),h3];rfl
theorem elemZ_k {deep:Int} {nm y:Bs} {l:List At} {e:Int} (h:z0q deep y .nil=.er e):q20 deep nm l y=.er e:=by rw[q20,h]
theorem elemZ_t {deep:Int} {nm y x:Bs} {l:List At} {k:Fo} {e:Int} (h:z0q deep y .nil=.ok k x) (h2:z06 x=.er e):q20 deep nm l y=.er e:=by rw[q20,h];simp only;rw[h2]
theorem elemZ_s {deep:Int} {nm y x nm2 v:Bs} {l:List At} {k:Fo} (h:z0q deep y .nil=.ok k x) (h2:z06 x=.ok nm2 v) (h3:nm2 ≠ nm):q20 deep nm l y=.er 4:=by rw[q20,h];simp only;rw[h2];simp only;rw[if_pos h3]
theorem elemZ_e {deep:Int} {nm y x v:Bs} {l:List At} {k:Fo} (h:z0q deep y .nil=.ok k x) (h2:z06 x=.ok nm v):q20 deep nm l y=match z0k [62] (V8 v) with | .er e=>.er e | .ok _ o=>.ok ⟨nm,l,k⟩ o:=by
 rw[q20,h];simp only;rw[h2];simp only;rw[if_neg (fun q=>q rfl)]
end Fd
namespace Go.Proofs.YtjonkbdldebkiaaGreatDoor
open Go.RowKit
def Nw (w w':World) (b:Nat):Prop:=w.heap.size≤b∧b < w'.heap.size
def j4b:Array Value:=#[.string ⟨#[]⟩,.slice none 0 0,.string ⟨#[]⟩,.slice none 0 0]
structure ElI (w wx:World) (R:Nat) (s:ByteArray) (j C N:Nat) (nm:List UInt8) (va:Value) (l:List Mk.At) (vk:Value) (f:Mk.Fo) (K:Nat→Prop):Prop where
 rl:R < w.heap.size
 x:Xr wx R s j
 ap:Ap (fun b=>b=R) w wx
 cl:w.heap.size≤C
 nl:w.heap.size≤N
 cn:C ≠ N
 cb:Blk wx C 53 j4b
 nb:Blk wx N 53 #[.string (st nm),va,.string ⟨#[]⟩,vk]
 kk:∀ b,K b→w.heap.size≤b∧b < wx.heap.size∧b ≠ C∧b ≠ N
 ats:AtsV wx K va l
 fo:FoV wx K vk f
section
variable {w wx wy : World} {R : Nat} {s : ByteArray} {j j' C N : Nat} {nm : List UInt8} {va vk : Value} {l : List Mk.At} {f : Mk.Fo} {K : Nat→Prop}
theorem ElI.ap2 (h:ElI w wx R s j C N nm va l vk f K) (ha:Ap (fun b=>b=R) wx wy) (hx:Xr wy R s j'):ElI w wy R s j' C N nm va l vk f K:=by
 have hr:=h.rl;have hc:=h.cl;have hn:=h.nl;have kp:∀ b,K b→K b∧wy.heap[b]? = wx.heap[b]?:=fun b hb=>⟨hb,ha.block b (h.kk b hb).2.1 (fun e=>by have:=(h.kk b hb).1;have e:b=R:=e;omega)⟩
 exact⟨h.rl,hx,h.ap.trans ha,h.cl,h.nl,h.cn,h.cb.ap ha (fun e=>by have e:C=R:=e;omega),h.nb.ap ha (fun e=>by have e:N=R:=e;omega),fun b hb=>⟨(h.kk b hb).1,Nat.lt_of_lt_of_le (h.kk b hb).2.1 ha.size,(h.kk b hb).2.2⟩,h.ats.frame kp,h.fo.frame kp⟩
theorem ElI.moved (h:ElI w wx R s j C N nm va l vk f K) (hm:Moved R wx wy) (hx:Xr wy R s j'):ElI w wy R s j' C N nm va l vk f K:=h.ap2 hm.ap hx
theorem ElI.drewN (h:ElI w wx R s j C N nm va l vk f K) (n:Nat):ElI w (wx.drewN n) R s j C N nm va l vk f K:=h.moved ((Moved.refl R wx).drewN n) (h.x.drewN n)
theorem ElI.gl (h:ElI w wx R s j C N nm va l vk f K) (hg:Gl w) (hR:4 < R):Gl wx:=hg.ap h.ap (by intro e;have e:0=R:=e;omega) (by intro e;have e:4=R:=e;omega)
theorem q0b {K:Nat→Prop} {w:World} {g i:Nat} {v:Value} (h:∀ b,K b→b ≠ g):∀ b,K b→K b∧(w.setCell ⟨g,i,none⟩ v).heap[b]? = w.heap[b]?:=fun b hb=>⟨hb,Below.heap_setCell w ⟨g,i,none⟩ v b (h b hb)⟩
theorem ElI.begin_ (h0:Xr wx R s j) (hr:R < w.heap.size) (hap:Ap (fun b=>b=R) w wx) (hcl:w.heap.size≤C) (hcb:Blk wx C 53 j4b) (nm:List UInt8):ElI w (wx.alloc (.cells #[.string (st nm),.slice none 0 0,.string ⟨#[]⟩,.slice none 0 0] 53)) R s j C wx.heap.size nm (.slice none 0 0) [] (.slice none 0 0) .nil (fun _=>False) :=
 ⟨hr,Blk.alloc h0 _,hap.alloc _,hcl,hap.size,fun e=>by have:=hcb.lt;omega,hcb.alloc _,Blk.new wx _ _,fun _ q=>q.elim,AtsV.nil _ _,⟨none,0,[],rfl,.inl rfl,rfl,Nat.zero_le _⟩⟩
theorem ElI.setAts (h:ElI w wx R s j C N nm va l vk f K) {v:Value} {la:List Mk.At} (ha:AtI wx wy R s j' v la):ElI w (wy.setCell ⟨N,1,none⟩ v) R s j' C N nm v la vk f (fun b=>K b∨Nw wx wy b):=by
 have h1:=h.ap2 ha.ap ha.x;have hr:=h.rl;have hn:=h.nl;have hnl:=h.nb.lt;have hcl:=h.cb.lt;have hsz:=ha.ap.size;have kne:∀ b,(K b∨Nw wx wy b)→b ≠ N:=by
  rintro b (q | q)
  ·exact(h.kk b q).2.2.2
  ·intro e;subst e;have:=q.1;omega
 refine⟨hr,Blk.far h1.x (p:=⟨N,1,none⟩) (fun e=>by have e:R=N:=e;omega) _,h1.ap.setNew (p:=⟨N,1,none⟩) hn _,h.cl,hn,h.cn,Blk.far h1.cb (p:=⟨N,1,none⟩) h.cn _,Blk.set_ h1.nb 1 _,?_,?_,?_⟩
 ·rintro b (q | q)
  ·obtain⟨a1,a2,a3⟩:=h1.kk b q
   exact⟨a1,by simpa [World.setCell] using a2,a3⟩
  ·exact⟨Nat.le_trans h.ap.size q.1,by have:=q.2;simpa [World.setCell] using this,fun e=>by subst e;have:=q.1;omega,kne b (.inr q)⟩
 ·have:AtsV wy (fun b=>K b∨Nw wx wy b) v la:=AtsV.of_own ha.ow (fun g hg=>.inr ⟨(ha.ow.lt g hg).1,(ha.ow.lt g hg).2⟩)
  exact this.frame (q0b kne)
 ·have:FoV wy (fun b=>K b∨Nw wx wy b) vk f:=h1.fo.frame (fun b hb=>⟨.inl hb,rfl⟩)
  exact this.frame (q0b kne)
theorem ElI.setKids (h:ElI w wx R s j C N nm va l vk f K) {v:Value} {g:Mk.Fo} (hx:Xr wy R s j') (ha:Ap (fun b=>b=R) wx wy) (hf:FoV wy (Nw wx wy) v g):ElI w (wy.setCell ⟨N,3,none⟩ v) R s j' C N nm va l v g (fun b=>K b∨Nw wx wy b):=by
 have h1:=h.ap2 ha hx;have hr:=h.rl;have hn:=h.nl;have hnl:=h.nb.lt;have hcl:=h.cb.lt;have hsz:=ha.size;have kne:∀ b,(K b∨Nw wx wy b)→b ≠ N:=by
  rintro b (q | q)
  ·exact(h.kk b q).2.2.2
  ·intro e;subst e;have:=q.1;omega
 refine⟨hr,Blk.far h1.x (p:=⟨N,3,none⟩) (fun e=>by have e:R=N:=e;omega) _,h1.ap.setNew (p:=⟨N,3,none⟩) hn _,h.cl,hn,h.cn,Blk.far h1.cb (p:=⟨N,3,none⟩) h.cn _,Blk.set_ h1.nb 3 _,?_,?_,?_⟩
 ·rintro b (q | q)
  ·obtain⟨a1,a2,a3⟩:=h1.kk b q
   exact⟨a1,by simpa [World.setCell] using a2,a3⟩
  ·exact⟨Nat.le_trans h.ap.size q.1,by have:=q.2;simpa [World.setCell] using this,fun e=>by subst e;have:=q.1;omega,kne b (.inr q)⟩
 ·have:AtsV wy (fun b=>K b∨Nw wx wy b) va l:=h1.ats.frame (fun b hb=>⟨.inl hb,rfl⟩)
  exact this.frame (q0b kne)
 ·have:FoV wy (fun b=>K b∨Nw wx wy b) v g:=hf.frame (fun b hb=>⟨.inr hb,rfl⟩)
  exact this.frame (q0b kne)
def ansW (wx:World) (C:Nat) (a b c d:Value):World:=(((wx.setCell ⟨C,0,none⟩ a).setCell ⟨C,1,none⟩ b).setCell ⟨C,2,none⟩ c).setCell ⟨C,3,none⟩ d
theorem ElI.ans (h:ElI w wx R s j C N nm va l vk f K):Blk (ansW wx C (.string (st nm)) va (.string ⟨#[]⟩) vk) C 53 #[.string (st nm),va,.string ⟨#[]⟩,vk]∧Xr (ansW wx C (.string (st nm)) va (.string ⟨#[]⟩) vk) R s j∧Ap (fun b=>b=R) w (ansW wx C (.string (st nm)) va (.string ⟨#[]⟩) vk)∧AtsV (ansW wx C (.string (st nm)) va (.string ⟨#[]⟩) vk) (Nw w (ansW wx C (.string (st nm)) va (.string ⟨#[]⟩) vk)) va l∧FoV (ansW wx C (.string (st nm)) va (.string ⟨#[]⟩) vk) (Nw w (ansW wx C (.string (st nm)) va (.string ⟨#[]⟩) vk)) vk f:=by
 have hr:=h.rl;have hc:=h.cl;have hRC:R ≠ C:=by omega
 have hsz:(ansW wx C (.string (st nm)) va (.string ⟨#[]⟩) vk).heap.size=wx.heap.size:=by simp[ansW,World.setCell]
 have kp:∀ b,K b→Nw w (ansW wx C (.string (st nm)) va (.string ⟨#[]⟩) vk) b∧(ansW wx C (.string (st nm)) va (.string ⟨#[]⟩) vk).heap[b]? = wx.heap[b]?:=by
  intro b hb;obtain⟨a1,a2,a3,_⟩:=h.kk b hb;refine⟨⟨a1,by rw[hsz];exact a2⟩,?_⟩;unfold ansW;rw[Below.heap_setCell _ ⟨C,3,none⟩ _ b a3,Below.heap_setCell _ ⟨C,2,none⟩ _ b a3,Below.heap_setCell _ ⟨C,1,none⟩ _ b a3,Below.heap_setCell _ ⟨C,0,none⟩ _ b a3]
 refine⟨Blk.set_ (Blk.set_ (Blk.set_ (Blk.set_ h.cb 0 _) 1 _) 2 _) 3 _,?_,?_,h.ats.frame kp,h.fo.frame kp⟩
 ·exact Blk.far (Blk.far (Blk.far (Blk.far h.x (p:=⟨C,0,none⟩) hRC _) (p:=⟨C,1,none⟩) hRC _) (p:=⟨C,2,none⟩) hRC _) (p:=⟨C,3,none⟩) hRC _
 ·exact(((h.ap.setNew (p:=⟨C,0,none⟩) hc _).setNew (p:=⟨C,1,none⟩) hc _).setNew (p:=⟨C,2,none⟩) hc _).setNew (p:=⟨C,3,none⟩) hc _
end
end Go.Proofs.YtjonkbdldebkiaaGreatDoor
namespace Go.Proofs.YtjonkbdldebkiaaGreatDoor
open Go.Proofs.Tryz Go.RowKit
theorem q4e (args:Array Value) (w:World):(callFunc 69 args).run prog w=.ok (.enter 69 args) w:=Z7 func69 (by kernel_rfl) rfl _ _
theorem eg_child (args:Array Value) (w:World):(callFunc 117 args).run prog w=.ok (.enter 117 args) w:=Z7 func117 (by kernel_rfl) rfl _ _
theorem z8z (f:Mk.Fo) (K:Nat→Prop) (w:World):q3t 69 #[] (fun _=>true) f K w:=by
 intro w1 hb j n a t kk r hd va vk hva hvk;obtain⟨aoa,capa,hva1,_⟩:=id hva;subst hva1;obtain⟨aok,capk,xsk,hvk1,_⟩:=id hvk;subst hvk1;unfold z05;go_enter func69,ntmps69;go_wp2_with fail;go_ret;exact⟨rfl,(Below.refl _ w1).alloc (Lr) _⟩
theorem j0o (g:FuncId) (eg:∀ args w,(callFunc g args).run prog w=.ok (.enter g args) w) (title:List UInt8) (p:Fd.Nd→Bool) (T D:Nat) (f:Mk.Fo) (K:Nat→Prop) (w:World) (hT:T < w.heap.size) (hD:D < w.heap.size) (hTc:w.cell? ⟨T,0,none⟩=some (.string (st title))) (hDc:w.cell? ⟨D,0,none⟩=some (.func (.func g) #[] #[])) (hK:∀ b,K b→b < w.heap.size) (hdo:q3t g #[] p f K w) :
  q3t 117 #[.pointer (some ⟨T,0,none⟩),.pointer (some ⟨D,0,none⟩)] (fun x=>decide (x.name=title) && p x) f K w:=by
 intro w1 hb j n a t kk r hd va vk hva hvk;have hst:∀ l:List UInt8,(st l).toList=l:=fun l=>Lib.toList_data _
 have d0:w1.cell? ⟨D,0,none⟩=some (.func (.func g) #[] #[]):=(hb.cell (p:=⟨D,0,none⟩) hD).trans hDc;have t0:w1.cell? ⟨T,0,none⟩=some (.string (st title)):=(hb.cell (p:=⟨T,0,none⟩) hT).trans hTc;have hT1:T < w1.heap.size:=Nat.lt_of_lt_of_le hT hb.size;have hD1:D < w1.heap.size:=Nat.lt_of_lt_of_le hD hb.size;obtain⟨aoa,capa,hva1,_⟩:=id hva;subst hva1;obtain⟨aok,capk,xsk,hvk1,_⟩:=id hvk;subst hvk1;have hal:=(Below.refl w1.heap.size w1).alloc (Lr) (.cells #[.string (st n),.slice aoa a.length capa,.string (st t),.slice aok kk.len capk] 53);have hb2:=hb.trans (hal.mono hb.size);have hK1:∀ b,K b→b < w1.heap.size:=fun b q=>Nat.lt_of_lt_of_le (hK b q) hb.size
 have hcall:=hdo _ hb2 j n a t kk r hd _ _ (hva.below hK1 hal) (hvk.below hK1 hal);show Calls _ _ _ _ (fun e w'=>e=.returned (.bool (decide (n=title) && p ⟨n,a,t,kk⟩))∧_);generalize p ⟨n,a,t,kk⟩=pb at hcall ⊢;have HC:=Ld hcall;have AL:=Ld hal;have NB:=Ld (Blk.new w1 53 #[.string (st n),.slice aoa a.length capa,.string (st t),.slice aok kk.len capk]);have e0:(w1.alloc (.cells #[.string (st n),.slice aoa a.length capa,.string (st t),.slice aok kk.len capk] 53)).cell? ⟨D,0,none⟩=some (.func (.func g) #[] #[]):=(hal.cell (p:=⟨D,0,none⟩) hD1).trans d0;have e1:(w1.alloc (.cells #[.string (st n),.slice aoa a.length capa,.string (st t),.slice aok kk.len capk] 53)).cell? ⟨T,0,none⟩=some (.string (st title)):=(hal.cell (p:=⟨T,0,none⟩) hT1).trans t0;clear hcall hal hb2 hva hvk hdo hd hb d0 t0 hDc hTc;unfold z05 at HC ⊢
 by_cases hn:n=title
 ·have hnb:(n == title)=true:=by simpa using hn
  have hdn:decide (n=title)=true:=decide_eq_true hn;rw[hdn,Bool.true_and];clear hn hdn;go_enter func117,ntmps117;go_upto_region 1 with fail;generalize w1.alloc (.cells #[.string (st n),.slice aoa a.length capa,.string (st t),.slice aok kk.len capk] 53)=w2 at e0 e1 NB AL HC ⊢;have n0:w2.cell? ⟨w1.heap.size,0,none⟩=some (.string (st n)):=Blk.cell NB.out 0;have n1:w2.cell? ⟨w1.heap.size,1,none⟩=some (.slice aoa a.length capa):=Blk.cell NB.out 1;have n2:w2.cell? ⟨w1.heap.size,2,none⟩=some (.string (st t)):=Blk.cell NB.out 2;have n3:w2.cell? ⟨w1.heap.size,3,none⟩=some (.slice aok kk.len capk):=Blk.cell NB.out 3;go_wp2_with fail;refine HC.out.mono ?_;rintro e w3 ⟨rfl,hb3⟩;have B3:=Ld (AL.out.trans (hb3.mono AL.out.size));clear hb3 e0 e1 n0 n1 n2 n3;go_wp2_with fail;go_ret;exact⟨rfl,B3.out⟩
 ·have hnb:(n == title)=false:=beq_eq_false_iff_ne.2 hn
  have hdn:decide (n=title)=false:=decide_eq_false hn;rw[hdn,Bool.false_and];clear hn hdn HC;go_enter func117,ntmps117;go_upto_region 1 with fail;generalize w1.alloc (.cells #[.string (st n),.slice aoa a.length capa,.string (st t),.slice aok kk.len capk] 53)=w2 at e0 e1 NB AL ⊢;have n0:w2.cell? ⟨w1.heap.size,0,none⟩=some (.string (st n)):=Blk.cell NB.out 0;have n1:w2.cell? ⟨w1.heap.size,1,none⟩=some (.slice aoa a.length capa):=Blk.cell NB.out 1;have n2:w2.cell? ⟨w1.heap.size,2,none⟩=some (.string (st t)):=Blk.cell NB.out 2;have n3:w2.cell? ⟨w1.heap.size,3,none⟩=some (.slice aok kk.len capk):=Blk.cell NB.out 3;go_wp2_with fail;go_ret;exact⟨rfl,AL.out⟩
theorem q3t.up {g:FuncId} {lb:Array Value} {q:Fd.Nd→Bool} {f:Mk.Fo} {K:Nat→Prop} {w w':World} (h:q3t g lb q f K w) (hb:Below w.heap.size w w'):q3t g lb q f K w':=fun w1 h1=>h w1 (hb.trans (h1.mono hb.size))
def NdV (w:World) (K:Nat→Prop) (va vk:Value) (x:Fd.Nd):Prop:=AtsV w K va x.ats∧FoV w K vk x.kids
theorem NdV.none (w:World) (K:Nat→Prop):NdV w K (.slice none 0 0) (.slice none 0 0) Fd.Nd.none:=⟨AtsV.nil _ _,⟨_,0,[],rfl,.inl rfl,rfl,Nat.zero_le _⟩⟩
def childR (title:List UInt8) (p:Fd.Nd→Bool) (k:Mk.Fo):Fd.Nd:=(Fd.z2z title p k).getD Fd.Nd.none
theorem q09 (g:FuncId) (eg:∀ args w,(callFunc g args).run prog w=.ok (.enter g args) w) (n title:List UInt8) (a:List Mk.At) (t:List UInt8) (va vk:Value) (k:Mk.Fo) (p:Fd.Nd→Bool) (K:Nat→Prop) (w:World) (hva:∃ ao cap,va=.slice ao a.length cap) (hvk:FoV w K vk k) (hK:∀ b,K b→b < w.heap.size) (hl:k.bulk≤33554432) (hdo:q3t g #[] p k K w) :
  Calls prog 68 #[z05 n va t vk,.string (st title),.func (.func g) #[] #[]] w fun e w'=>Below w.heap.size w w'∧∃ va' vk',e=.returned (.tuple #[z05 (childR title p k).name va' (childR title p k).text vk',.bool (Fd.z2z title p k).isSome])∧NdV w' K va' vk' (childR title p k):=by
 have hmf:∀ (fn:Fn) (first cap:Array Value) (w:World),(Instr.makeFunc fn first cap).run prog w=.ok (.func fn first cap) w:=fun _ _ _ _=>rfl
 obtain⟨g0,o,cap,hv1,hlen,hat⟩:=hvk.at_
 obtain⟨aoa,capa,rfl⟩:=hva;obtain⟨aok,capk,xsk,hvk1,_⟩:=id hvk;subst hvk1;have hX:=Fd.q5t title p k;have HX:=Ld hX;have hR:childR title p k=(Fd.z2z title p k).getD Fd.Nd.none:=rfl;have HR:=Ld hR;generalize childR title p k=out at HR ⊢;generalize Fd.z2z title p k=opt at HX HR ⊢;have b0:=Blk.new w 53 #[.string (st n),.slice aoa a.length capa,.string (st t),.slice aok k.len capk];have b1:=Blk.new (w.alloc (.cells #[.string (st n),.slice aoa a.length capa,.string (st t),.slice aok k.len capk] 53)) 9 #[.string (st title)];have b2:=Blk.new ((w.alloc (.cells #[.string (st n),.slice aoa a.length capa,.string (st t),.slice aok k.len capk] 53)).alloc (.cells #[.string (st title)] 9)) 121 #[.func (.func g) #[] #[]];have b3:=Blk.new (((w.alloc (.cells #[.string (st n),.slice aoa a.length capa,.string (st t),.slice aok k.len capk] 53)).alloc (.cells #[.string (st title)] 9)).alloc (.cells #[.func (.func g) #[] #[]] 121)) 53 #[.string ⟨#[]⟩,.slice none 0 0,.string ⟨#[]⟩,.slice none 0 0];simp only [World.size_alloc] at b1 b2 b3;have hal:=((((Below.refl _ w).alloc (Lr) (.cells #[.string (st n),.slice aoa a.length capa,.string (st t),.slice aok k.len capk] 53)).alloc (by simp) (.cells #[.string (st title)] 9)).alloc (by simp;omega) (.cells #[.func (.func g) #[] #[]] 121)).alloc (by simp;omega) (.cells #[.string ⟨#[]⟩,.slice none 0 0,.string ⟨#[]⟩,.slice none 0 0] 53);have AL:=Ld hal;have NB:=Ld (Blk.alloc (Blk.alloc (Blk.alloc b0 (.cells #[.string (st title)] 9)) (.cells #[.func (.func g) #[] #[]] 121)) (.cells #[.string ⟨#[]⟩,.slice none 0 0,.string ⟨#[]⟩,.slice none 0 0] 53));have TB:=Ld (Blk.alloc (Blk.alloc b1 (.cells #[.func (.func g) #[] #[]] 121)) (.cells #[.string ⟨#[]⟩,.slice none 0 0,.string ⟨#[]⟩,.slice none 0 0] 53));have DB:=Ld (Blk.alloc b2 (.cells #[.string ⟨#[]⟩,.slice none 0 0,.string ⟨#[]⟩,.slice none 0 0] 53));have CB:=Ld b3;have HDO:=Ld hdo;have HAT:=Ld hat
 have HKW:=Ld hK;have HVK:=Ld hvk;have HV1:=Ld hv1;clear b0 b1 b2 b3 hal hX hR hdo hat hK hvk hv1;unfold z05;go_enter func68,ntmps68;go_upto_region 1 with fail;generalize (((w.alloc (.cells #[.string (st n),.slice aoa a.length capa,.string (st t),.slice aok k.len capk] 53)).alloc (.cells #[.string (st title)] 9)).alloc (.cells #[.func (.func g) #[] #[]] 121)).alloc (.cells #[.string ⟨#[]⟩,.slice none 0 0,.string ⟨#[]⟩,.slice none 0 0] 53)=w1 at AL NB TB DB CB ⊢;have hNC:w.heap.size ≠ w.heap.size + 1 + 1 + 1:=by omega
 have hCC:w.heap.size≤w.heap.size + 1 + 1 + 1:=by omega
 generalize w.heap.size + 1 + 1 + 1=C at CB hNC hCC ⊢;generalize w.heap.size + 1 + 1=D at DB ⊢;generalize w.heap.size + 1=T at TB ⊢;have hK1:∀ b,K b→b < w1.heap.size:=fun b q=>Nat.lt_of_lt_of_le (HKW.out b q) AL.out.size
 have HI:=Ld (q5a 117 #[.pointer (some ⟨T,0,none⟩),.pointer (some ⟨D,0,none⟩)] _ eg_child k _ K w1 (HVK.out.below HKW.out AL.out) hK1 hl (j0o g eg title p T D k K w1 (Blk.lt TB.out) (Blk.lt DB.out) (Blk.cell TB.out 0) (Blk.cell DB.out 0) hK1 (HDO.out.up AL.out)));have c3:w1.cell? ⟨w.heap.size,3,none⟩=some (.slice aok k.len capk):=Blk.cell NB.out 3;have hNl:=Blk.lt NB.out;have hCl:=Blk.lt CB.out;clear TB DB HDO;go_wp2_with fail;refine HI.out.mono ?_;rintro e w2 ⟨hb,i,rfl,hi⟩;have B2:=Ld (AL.out.trans (hb.mono AL.out.size));have d3:w2.cell? ⟨w.heap.size,3,none⟩=some (.slice aok k.len capk):=(hb.cell (p:=⟨w.heap.size,3,none⟩) hNl).trans c3;have CB2:=Ld ((hb.block C hCl).trans CB.out);have z0:w2.cell? ⟨C,0,none⟩=some (.string ⟨#[]⟩):=Blk.cell CB2.out 0;have z1:w2.cell? ⟨C,1,none⟩=some (.slice none 0 0):=Blk.cell CB2.out 1;have z2:w2.cell? ⟨C,2,none⟩=some (.string ⟨#[]⟩):=Blk.cell CB2.out 2;have z3:w2.cell? ⟨C,3,none⟩=some (.slice none 0 0):=Blk.cell CB2.out 3;have y:∀ i,w2.frozen? ⟨C,i,none⟩=false:=Blk.frozen CB2.out;have HB:Hid (∀ a b c d,Below w.heap.size w (ansW w2 C a b c d)):=fun a b c d=>(((B2.out.setCell (p:=⟨C,0,none⟩) hCC a).setCell (p:=⟨C,1,none⟩) hCC b).setCell (p:=⟨C,2,none⟩) hCC c).setCell (p:=⟨C,3,none⟩) hCC d
 clear hb HI AL NB CB c3 CB2
 rcases hi with ⟨rfl,h2⟩ | ⟨j,n',a',t',kk,r,rfl,hd,h2⟩
 ·have HE:Hid (opt=none):=by show _=_;rw[HX.out,h2]
  have HO:Hid (out=Fd.Nd.none):=by show _=_;rw[HR.out,HE.out];rfl
  clear h2 HX HR;go_wp2_with fail;refine bodyPost_ret (v:=.tuple #[z05 [] (.slice none 0 0) [] (.slice none 0 0),.bool false]) (by simp[results,results68,go_sem, *];rfl) rfl ?_;rw[HE.out,HO.out];exact⟨HB.out _ _ _ _,.slice none 0 0,.slice none 0 0,rfl,NdV.none _ _⟩
 ·have HE:Hid (opt=some ⟨n',a',t',kk⟩):=by show _=_;rw[HX.out,h2]
  have HO:Hid (out=⟨n',a',t',kk⟩):=by show _=_;rw[HR.out,HE.out];rfl
  have hjl:j < k.len:=by
   rcases Nat.lt_or_ge j k.len with q | q
   ·exact q
   ·have hr:=Mk.Fo.j5f k j
    rw[hd] at hr;simp only [Mk.Fo.len] at hr;omega
  rcases HV1.out with ⟨hq,hKg⟩ | ⟨ao,hq,h0⟩
  ·injection hq with q1 q2 q3
   subst q1;obtain⟨va',vk',e0,e1,e2,e3,hva',hvk'⟩:=HAT.out j n' a' t' kk r hd;rw[← B2.out.cell (p:=⟨g0,_,none⟩) (HKW.out g0 hKg)] at e0 e1 e2 e3;obtain⟨aoa',capa',hva1',_⟩:=id hva';subst hva1';obtain⟨aok',capk',xsk',hvk1',_⟩:=id hvk';subst hvk1';have FIN:=Ld (And.intro (HB.out (.string (st n')) (.slice aoa' a'.length capa') (.string (st t')) (.slice aok' kk.len capk')) (And.intro (hva'.below HKW.out (HB.out (.string (st n')) (.slice aoa' a'.length capa') (.string (st t')) (.slice aok' kk.len capk'))) (hvk'.below HKW.out (HB.out (.string (st n')) (.slice aoa' a'.length capa') (.string (st t')) (.slice aok' kk.len capk')))));have hji:(j:Int) < k.len:=by omega
   have hj0:¬ (j:Int) < 0:=by omega
   have hj1:(0:Int)≤j:=by omega
   clear h2 HX HR HAT hva' hvk' HB hd HVK HV1;go_wp2_with fail;refine bodyPost_ret (v:=.tuple #[z05 n' (.slice aoa' a'.length capa') t' (.slice aok' kk.len capk'),.bool true]) (by simp[results,results68,go_sem, *];rfl) rfl ?_;rw[HE.out,HO.out];exact⟨FIN.out.1,_,_,rfl,FIN.out.2⟩
  ·subst h0
   simp[Mk.Fo.len] at hjl
theorem z3o (title:List UInt8) (p:Fd.Nd→Bool):∀ k:Mk.Fo,Mk.Fo.atB (childR title p k).ats + (childR title p k).text.length + (childR title p k).kids.bulk≤k.bulk
 | .nil=>by show 0 + 0 + 0≤0;omega
 | .node n a t k r=>by
  have ih:=z3o title p r;have e:Mk.Fo.bulk (.node n a t k r)=1 + n.length + t.length + Mk.Fo.atB a + Mk.Fo.bulk k + Mk.Fo.bulk r:=rfl;rw[e];unfold childR at ih ⊢;unfold Fd.z2z
  split
  ·show Mk.Fo.atB a + t.length + k.bulk≤_
   omega
  ·omega
theorem q9i (n title:List UInt8) (a:List Mk.At) (t:List UInt8) (va vk:Value) (k:Mk.Fo) (K:Nat→Prop) (w:World) (hva:∃ ao cap,va=.slice ao a.length cap) (hvk:FoV w K vk k) (hK:∀ b,K b→b < w.heap.size) (hl:k.bulk≤33554432) :
  Calls prog 118 #[z05 n va t vk,.string (st title)] w fun e w'=>e=.returned (.string (st (Fd.X9 k title)))∧Below w.heap.size w w':=by
 obtain⟨aoa,capa,rfl⟩:=hva;obtain⟨aok,capk,xsk,hvk1,_⟩:=id hvk;subst hvk1;have HW:Hid (Fd.X9 k title=Fd.q7a ((childR title (fun _=>true) k).text++Fd.z16 (childR title (fun _=>true) k).kids)):=rfl;generalize Fd.X9 k title=out at HW ⊢;have hal:=(Below.refl w.heap.size w).alloc (Lr) (.cells #[.string (st n),.slice aoa a.length capa,.string (st t),.slice aok k.len capk] 53);have hK1:∀ b,K b→b < (w.alloc (.cells #[.string (st n),.slice aoa a.length capa,.string (st t),.slice aok k.len capk] 53)).heap.size:=fun b q=>Nat.lt_of_lt_of_le (hK b q) hal.size
 have HC:=Ld (q09 69 q4e n title a t (.slice aoa a.length capa) (.slice aok k.len capk) k (fun _=>true) K _ ⟨_,_,rfl⟩ (hvk.below hK hal) hK1 hl (z8z k K _));have AL:=Ld hal;have NB:=Ld (Blk.new w 53 #[.string (st n),.slice aoa a.length capa,.string (st t),.slice aok k.len capk]);have hcb:=z3o title (fun _=>true) k;generalize childR title (fun _=>true) k=x at HW HC hcb;have HK1:=Ld hK1;clear hal hvk hK1;unfold z05 at HC ⊢;go_enter func118,ntmps118;go_upto_region 1 with fail;generalize w.alloc (.cells #[.string (st n),.slice aoa a.length capa,.string (st t),.slice aok k.len capk] 53)=w1 at AL NB HC HK1 ⊢;have n0:w1.cell? ⟨w.heap.size,0,none⟩=some (.string (st n)):=Blk.cell NB.out 0;have n1:w1.cell? ⟨w.heap.size,1,none⟩=some (.slice aoa a.length capa):=Blk.cell NB.out 1;have n2:w1.cell? ⟨w.heap.size,2,none⟩=some (.string (st t)):=Blk.cell NB.out 2;have n3:w1.cell? ⟨w.heap.size,3,none⟩=some (.slice aok k.len capk):=Blk.cell NB.out 3;go_wp2_with fail;refine HC.out.mono ?_;rintro e w2 ⟨hb,va',vk',rfl,hnd⟩;have B2:=Ld (AL.out.trans (hb.mono AL.out.size));obtain⟨aoa',capa',hva1',_⟩:=id hnd.1;subst hva1';obtain⟨aok',capk',xsk',hvk1',_⟩:=id hnd.2;subst hvk1';have hK2:∀ b,K b→b < w2.heap.size:=fun b q=>Nat.lt_of_lt_of_le (HK1.out b q) hb.size
 have hal2:=(Below.refl w2.heap.size w2).alloc (Lr) (.cells #[.string (st x.name),.slice aoa' x.ats.length capa',.string (st x.text),.slice aok' x.kids.len capk'] 53);have HT:=Ld (fd_text (x.kids.bulk + 1) x.name x.ats x.text x.kids (Nat.lt_succ_self _) (by omega) _ _ K _ (hnd.1.below hK2 hal2) (hnd.2.below hK2 hal2) (fun b q=>Nat.lt_of_lt_of_le (hK2 b q) hal2.size));have B3:=Ld (B2.out.trans (hal2.mono B2.out.size));have MB:=Ld (Blk.new w2 53 #[.string (st x.name),.slice aoa' x.ats.length capa',.string (st x.text),.slice aok' x.kids.len capk']);have htb:=Fd.z2k x.kids;unfold z05 at HT;clear hb hnd hal2 hK2 HC n0 n1 n2 n3 NB AL B2 HK1;go_upto_region 2 with fail;generalize w2.alloc (.cells #[.string (st x.name),.slice aoa' x.ats.length capa',.string (st x.text),.slice aok' x.kids.len capk'] 53)=w3 at B3 MB HT ⊢;have m0:w3.cell? ⟨w2.heap.size,0,none⟩=some (.string (st x.name)):=Blk.cell MB.out 0;have m1:w3.cell? ⟨w2.heap.size,1,none⟩=some (.slice aoa' x.ats.length capa'):=Blk.cell MB.out 1;have m2:w3.cell? ⟨w2.heap.size,2,none⟩=some (.string (st x.text)):=Blk.cell MB.out 2;have m3:w3.cell? ⟨w2.heap.size,3,none⟩=some (.slice aok' x.kids.len capk'):=Blk.cell MB.out 3;clear MB;go_wp2_with fail;refine HT.out.mono ?_;rintro e w4 ⟨rfl,hb4⟩;have B4:=Ld (B3.out.trans (hb4.mono B3.out.size));have HTR:=Ld (fd_trim (x.text++Fd.z16 x.kids) w4 (by rw[List.length_append];omega));clear hb4 HT m0 m1 m2 m3 B3;go_wp2_with fail;refine HTR.out.mono ?_;rintro e w5 ⟨rfl,hw5⟩;subst w5;go_wp2_with fail;go_ret;exact⟨by (rw[HW.out]) <;> rfl,B4.out⟩
end Go.Proofs.YtjonkbdldebkiaaGreatDoor
namespace Mk
def page:Fo:=.node [112] [] [] (.node [] [] [97] .nil (.node [98,114] [] [] .nil .nil)) (.node [117,108] [] [] (.node [108,105] [] [] (.node [] [] [98] .nil .nil) (.node [108,105] [] [] (.node [] [] [99] .nil .nil) .nil)) .nil)
end Mk
namespace Go.Proofs.YtjonkbdldebkiaaGreatDoor
open Go.RowKit
theorem FoV.of_blk {w:World} {g cap:Nat} {K:Nat→Prop} {f:Mk.Fo} {cs:List Value} (hb:Blk w g 53 cs.toArray) (hK:K g) (hc:z07 w K f cs) (hl:f.len≤maxLen):FoV w K (.slice (some ⟨g,0,none⟩) f.len cap) f :=
 ⟨_,cap,cs,rfl,.inr ⟨g,0,rfl,hK,fun i v q=>by rw[Nat.zero_add];exact(Blk.cell hb i).trans (by simpa using q)⟩,hc,hl⟩
def j6j (n t:List UInt8) (vk:Value):List Value:=[.string (st n),.slice none 0 0,.string (st t),vk]
theorem z07.one {w:World} {K:Nat→Prop} {n t:List UInt8} {k r:Mk.Fo} {ao:Option Addr} {cap:Nat} {ys:List Value} (hk:FoV w K (.slice ao k.len cap) k) (hr:z07 w K r ys):z07 w K (.node n [] t k r) (j6j n t (.slice ao k.len cap)++ys):=by
 obtain⟨ao',cap',xs,h1,h2,h3,h4⟩:=hk;injection h1 with e1 e2 e3;subst e1;exact⟨.slice none 0 0,ao,cap,xs,ys,rfl,AtsV.nil _ _,h2,h4,h3,hr⟩
end Go.Proofs.YtjonkbdldebkiaaGreatDoor
namespace Mk
def s0:Bs:=[60,115,101,99,116,105,111,110,62,60,112,32,111,110,99,108,105,99,107,61,120,62,97,60,115,99,114,105,112,116,62,98,60,47,115,99,114,105,112,116,62,60,97,32,104,114,101,102,61,99,62,100,60,47,97,62,60,97,32,104,114,101,102,61,39,106,97,118,97,115,99,114,105,112,116,58,101,39,62,102,60,47,97,62,60,105,109,103,62,103]
def short (s:Bs):Bool:=decide (s.length < 32) && s.all fun b=>(reps.lookup b).isNone
def script:Fo:=.node [115,99,114,105,112,116] [] [] .nil .nil
end Mk
namespace Go.Proofs.YtjonkbdldebkiaaGreatDoor
open Go.RowKit
end Go.Proofs.YtjonkbdldebkiaaGreatDoor
namespace Go.Proofs.YtjonkbdldebkiaaGreatDoor
open Go.Proofs.Tryz Go.RowKit
theorem j3m (base s:List UInt8) (hs:s.length≤3000):∀ t ∈ Mk.flat (Mk.clean base (Mk.build (Mk.toks s))),z8a t:=by
 intro t ht;have h1:=Mk.z8v s;have h2:=Mk.z6t (Mk.toks s);have h3:=Mk.q2p base (Mk.build (Mk.toks s));obtain⟨h4,h5⟩:=Mk.q9j _ t ht;exact⟨fun _=>z8u _ (by omega),fun a ha=>z8u _ (by have:=h5 a ha;omega)⟩
theorem j1j (base s:List UInt8) (w:World) (hg:Gl w) (hb:base.length≤3000) (hs:s.length≤3000) :
  Calls prog 19 #[.string (st base),.string (st s)] w fun e w'=>e=.returned (.tuple #[.string (st (Mk.html base s)),.int .i64 0])∧Below w.heap.size w w' :=
 cl_Html base s w hg hb (Mk.fits base s hs) (j3m base s hs)
theorem q5u (base s:List UInt8) (w:World) (h:3000 < base.length∨3000 < s.length) :
  Calls prog 19 #[.string (st base),.string (st s)] w fun e w'=>e=.returned (.tuple #[.string (st []),.int .i64 2])∧w'=w:=by
 by_cases h1:3000 < base.length
 ·have h2:3000 < (st base).size:=by rw[Z4];omega
  clear h h1;go_enter func19,ntmps19;go_wp2_with fail;go_ret2;exact⟨rfl,rfl⟩
 ·have h2:¬ 3000 < (st base).size:=by rw[Z4];omega
  have h3:3000 < (st s).size:=by rw[Z4];omega
  clear h h1;go_enter func19,ntmps19;go_wp2_with fail;go_ret2;exact⟨rfl,rfl⟩
end Go.Proofs.YtjonkbdldebkiaaGreatDoor
