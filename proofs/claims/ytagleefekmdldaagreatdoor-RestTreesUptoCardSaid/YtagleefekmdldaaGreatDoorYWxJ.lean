/- Contracts of the strict reader's text (a text behind others) and of its method plain. Condition: a text of at most 100000 bytes. -/
import Derived.Test.YtagleefekmdldaaGreatDoorYWpC
import Derived.Test.YtagleefekmdldaaGreatDoorYMkClean4
import Derived.Test.YtagleefekmdldaaGreatDoorYFdDate
import Derived.Deep.RegionHeld3
set_option linter.unusedVariables false
set_option linter.unusedSimpArgs false
set_option maxHeartbeats 16000000
set_option maxRecDepth 100000
namespace Fd
open Mk
theorem j5s (c:UInt8) (t:Bs):Mg.pre [60] (c :: t)=(c == 60):=by
 unfold Mg.pre;rw[Bool.eq_iff_iff];simp
theorem j3o:∀ l:Bs,(z00 [60] l=none∧Go.Lib.indexByte l 60 = -1)∨∃ i:Nat,Go.Lib.indexByte l 60=i∧i < l.length∧z00 [60] l=some (l.take i,l.drop (i + 1))
 | []=>.inl ⟨rfl,rfl⟩
 | c :: t=>by
  unfold z00 Go.Lib.indexByte;rw[j5s]
  cases h:c == 60 with
  | true=>exact .inr ⟨0,by first | rfl | simp,by simp,by simp⟩
  | false =>
   have hge:=Go.Lib.indexByte_ge t 60
   rcases j3o t with ⟨h1,h2⟩ | ⟨i,h1,h2,h3⟩
   ·refine .inl ⟨by simp[h1],by simp[h2]⟩
   ·refine .inr ⟨i + 1,?_,by simp;omega,by simp[h3]⟩
    rw[h1];simp <;> omega
end Fd
namespace Go.Proofs.YtagleefekmdldaaGreatDoor
open Go.Proofs.Tryz Go.RowKit
theorem j7a (f:Mk.Fo) (t:List UInt8) (v:Value) (B:Nat) (K:Nat→Prop) (xs:List Value) (w:World) (hF:OwnF w B K v f xs) (hB:B≤w.heap.size) (hl:f.bulk + t.length≤1099511627776) :
  Calls prog 131 #[v,.string (st t)] w fun e w'=>∃ v' xs',e=.returned v'∧OwnF w' B K v' (Fd.z90 f t) xs'∧Ap (fun b=>v.ownBlock=some b) w w'∧q1e w v v':=by
 have hst:∀ l:List UInt8,(st l).toList=l:=fun l=>Lib.toList_data _
 have HTX:Hid (Fd.z90 f t=if t=[] then f else Mk.Fo.snoc [] [] t .nil f):=rfl;obtain⟨ao0,cap0,hu0⟩:=Y1 hF.own;subst hu0;have HF:=Ld hF;generalize Fd.z90 f t=out at HTX ⊢;clear hF
 rcases z7s t with ⟨e1,e2⟩ | ⟨e1,e2⟩
 ·rw[if_pos e1] at HTX
  clear e1;go_enter func131,ntmps131;go_wp2_with fail;go_ret;exact⟨_,_,rfl,by rw[HTX.out];exact HF.out,Ap.refl _ _,.inl rfl⟩
 rw[if_neg e1] at HTX;clear e1;have hfl:=Mk.Fo.z0m f;have htl:=Mk.Fo.z6h f;go_enter func131,ntmps131;go_upto_region 4 with fail
 go_cut [21] (fun b wx=>b=.bool (f.merges [])∧w=wx)
 case first =>
  as_aux_lemma =>
  by_cases hf0:f=.nil
  ·have HM:Hid (f.merges []=false):=by show _=_;rw[hf0,Mk.Fo.z4d]
   have hl0:¬ 0 < f.len:=by rw[hf0];simp[Mk.Fo.len]
   clear hf0;go_wp2_with fail;go_meet
   case rel=>exact⟨by rw[HM.out],rfl⟩
  ·obtain⟨g0,capz,hz,d1,d2,df⟩:=HF.out.last hf0
   injection hz with z1 z2 z3;subst z1;subst z3;have hl0:0 < f.len:=z16 f hf0;obtain⟨j,hj⟩:∃ j,j=f.len - 1:=⟨_,rfl⟩;rw[← hj] at d1;have hj1:(f.len:Int) - 1=j:=by omega
   have hj2:(j:Int) < f.len:=by omega
   have hj3:(0:Int)≤j:=by omega
   have hbl:f.z5m=[]∨f.z5m.isEmpty=false:=by
    cases f.z5m with
    | nil=>exact .inl rfl
    | cons _ _=>exact .inr rfl
   have HF0:=Ld hf0;clear hj d2 df hf0
   rcases hbl with h1 | h1
   ·have HM:Hid (f.merges []=true):=(Mk.Fo.Y5 _ _).2 ⟨rfl,HF0.out,h1⟩
    have he1:f.z5m.isEmpty=true:=by rw[h1];rfl
    clear h1;go_wp2_with fail;go_meet
    case rel=>exact⟨by rw[HM.out],rfl⟩
   ·have HM:Hid (f.merges []=false):=by
     show _=_;rw[Bool.eq_false_iff];intro q;rw[((Mk.Fo.Y5 _ _).1 q).2.2] at h1;cases h1
    go_wp2_with fail;go_meet
    case rel=>exact⟨by rw[HM.out],rfl⟩
 case rest =>
  as_aux_lemma =>
  obtain⟨rfl,hw⟩:=hcut;subst hw;obtain⟨mb,hmb⟩:∃ mb,f.merges []=mb:=⟨_,rfl⟩;rw[hmb];have HMB:=Ld hmb;clear hmb
  cases mb with
  | true =>
   have hq:=(Mk.Fo.Y5 _ _).1 HMB.out;obtain⟨g0,capz,hz,d1,d2,df⟩:=HF.out.last hq.2.1;injection hz with z1 z2 z3;subst z1;subst z3;have hl0:0 < f.len:=z16 f hq.2.1;have OFM:=Ld (HF.out.merged [] t .nil HMB.out (g:=g0) rfl);obtain⟨j,hj⟩:∃ j,j=f.len - 1:=⟨_,rfl⟩;rw[← hj] at d1 d2 OFM;have hj1:(f.len:Int) - 1=j:=by omega
   have hj2:(j:Int) < f.len:=by omega
   have hj3:(0:Int)≤j:=by omega
   have df2:=df (j * 4 + 2);have q1:¬ 9223372036854775807 < (st f.lastT).size + (st t).size:=by rw[y9,y9];omega
   clear hj hq df;go_wp2_with fail;rw[show st f.lastT++st t=st (f.lastT++t) from z19 (st f.lastT) (st t)];have OFM2:Hid (OwnF (w.setCell ⟨g0,j * 4 + 2,none⟩ (.string (st (f.lastT++t)))) B K (.slice (some ⟨g0,0,none⟩) f.len cap0) (Mk.Fo.snoc [] [] t .nil f) (xs.set (4 * j + 2) (.string (st (f.lastT++t))))):=by
    have:=OFM.out;rw[Nat.mul_comm 4 j] at this;rw[Nat.mul_comm 4 j];exact this
   go_ret;exact⟨_,rfl,⟨_,by rw[HTX.out];exact OFM2.out⟩,(Ap.refl (fun b=>(Value.slice (some ⟨g0,0,none⟩) f.len cap0).ownBlock=some b) w).setCell (p:=⟨g0,j * 4 + 2,none⟩) rfl _,.inl rfl⟩
  | false =>
   obtain⟨i0,hi,hz0,hz1,hz2⟩:=info_parts Tryz.infoNode;have ow10:=X8 HF.out.own ((Ap.refl (fun _=>False) w).alloc (.cells #[.string ⟨#[]⟩,.slice none 0 0,.string (st t),.slice none 0 0] 38)) (fun _ _ q=>q);have hal2:=(Below.refl w.heap.size w).alloc (Lr) (.cells #[.string ⟨#[]⟩,.slice none 0 0,.string (st t),.slice none 0 0] 38);have hlf:f.len≤1099511627776:=by omega
   go_wp2_with (at_builtin;refine Q9 rfl _ _ 22 rfl B 38 i0 (.agg #[.string ⟨#[]⟩,.slice none 0 0,.string ⟨#[]⟩,.slice none 0 0]) 4 80 underlying22 hi hz0 hz1 hz2 rfl (by decide) _ _ _ rfl ow10 ⟨w.heap.size,0,none⟩ 1 1 [.string ⟨#[]⟩,.slice none 0 0,.string (st t),.slice none 0 0] rfl rfl (Y9 _ _ _) (by intro u hu;simp at hu;rcases hu with rfl | rfl | rfl | rfl <;> rfl) (by decide) (by unfold maxLen;omega) (by omega) (by simp;omega) ?_);intro v' w2 hown' hgrow hfresh;have hfr2:v'.ownBlock=(Value.slice ao0 f.len cap0).ownBlock∨v'.ownBlock=some (w.alloc (.cells #[.string ⟨#[]⟩,.slice none 0 0,.string (st t),.slice none 0 0] 38)).heap.size:=hfresh.imp id (fun e=>by rw[e];simp);have OFP:=Ld (HF.out.pushed (n:=[]) (a:=[]) (t:=t) (k:=.nil) (ao:=none) (cap:=0) (AtsV.nil w K) (.inl rfl:z1v w K none []) (Nat.zero_le _) rfl HMB.out hal2 hown' hgrow hfr2);have APP:Hid (Ap (fun b=>(Value.slice ao0 f.len cap0).ownBlock=some b) w w2) :=
    ((Ap.refl _ w).alloc (.cells #[.string ⟨#[]⟩,.slice none 0 0,.string (st t),.slice none 0 0] 38)).grown hgrow (fun b hb e=>e)
   have FRP:Hid (q1e w (Value.slice ao0 f.len cap0) v'):=by
    rcases hfr2 with e | e
    ·exact .inl e
    ·exact .inr ⟨_,e,by simp⟩
   clear hown' hgrow hfresh hfr2 ow10 hal2;go_wp2_with fail;go_ret;exact⟨_,_,rfl,by rw[HTX.out];exact OFP.out,APP.out,FRP.out⟩
section
variable {w w' : World} {R : Nat} {s : ByteArray} {k : Nat}
theorem j3m (s:ByteArray) (w:World):Calls prog 151 #[.string s,.int .u8 60] w fun e w'=>e=.returned (.int .i64 (Lib.indexByte s.data.toList 60))∧w'=w :=
 (Tryz.strings_IndexByte s 60 w).mono fun e w' ⟨he,hw⟩=>⟨he,hw⟩
theorem xr_plain (hg:Gl w) (hR:1 < R) (h:Xr w R s k) (hk:k≤s.size) (hs:s.size≤100000) :
  Calls prog 132 #[.pointer (some ⟨R,0,none⟩)] w fun e w' =>
   (Fd.z00 [60] (s.data.toList.drop k)=none∧e=GaveX 1∧Ap (fun b=>b=R) w w')∨∃ a y,Fd.z00 [60] (s.data.toList.drop k)=some (a,y)∧e=.returned (.string (st a))∧k + a.length≤s.size∧Xr w' R s (k + a.length)∧Moved R w w':=by
 have c0:=h.c0;have c1:=h.c1;have f1:=h.fz 1;have HX:=Ld h;have HG:=Ld hg;have hk1:(k:Int)≤s.size:=by omega
 have hd:(s.extract k s.size).data.toList=s.data.toList.drop k:=by rw[Z4,z0b,List.take_of_length_le (by rw[List.length_drop,bs_len];omega)]
 have hc:=fun W=>j3m (s.extract k s.size) W
 rw[hd] at hc;have hz:(s.data.toList.drop k).length=s.size - k:=by rw[List.length_drop,bs_len]
 have hx0:s.extract k s.size=st (s.data.toList.drop k):=by rw[Z4,List.take_of_length_le (by rw[hz];omega)]
 have HTO:=Ld (fun (W:World) (hW:Gl W)=>q8x (s.data.toList.drop k) W (by rw[hz];omega) hW);have H60:=Ld (Fd.j3o (s.data.toList.drop k));have HZ:=Ld hz;have HX0:=Ld hx0;generalize Lib.indexByte (s.data.toList.drop k) 60=ix at hc H60;have HC:=Ld hc;clear hc hd h hg hz hx0
 rcases H60.out with ⟨h1,h2⟩ | ⟨i,h1,h2,h3⟩
 ·subst h2
  have HE:=Ld h1;clear h1 H60;go_enter func132,ntmps132;go_wp2_with fail
  go_quiet ((go_at_call 151;exact Calls.quiet_of_same (HC.out _)))
  go_wp2_with fail;have X1:=Ld (HX.out.drewN nq);have AP1:=Ld ((Ap.refl (fun b=>b=R) w).drewN nq);have GL1:=Ld (HG.out.drewN nq);generalize w.drewN nq=w1 at X1 AP1 GL1 ⊢;have HRW:=Ld (Blk.lt X1.out);have HCC:Hid ((w1.drew.cell? ⟨R,0,none⟩=some (.string s)∧w1.drew.cell? ⟨R,1,none⟩=some (.int .i64 k))∧∀ W,Below w1.heap.size w1.drew W→(W.cell? ⟨R,0,none⟩=some (.string s)∧W.cell? ⟨R,1,none⟩=some (.int .i64 k))) :=
   ⟨⟨Xr.c0 (Blk.drew X1.out),Xr.c1 (Blk.drew X1.out)⟩,fun W hW=>⟨Xr.c0 (Blk.below (Blk.drew X1.out) hW HRW.out),Xr.c1 (Blk.below (Blk.drew X1.out) hW HRW.out)⟩⟩
  have hto:=HTO.out w1.drew GL1.out.drew;rw[← HX0.out] at hto;clear HTO HC GL1 c0 c1 f1;obtain⟨bt,hbt⟩:∃ bt,(Mk.take (s.data.toList.drop k)).2=bt:=⟨_,rfl⟩;rw[hbt] at hto;clear hbt
  cases bt with
  | false =>
   have HT3:Hid (Calls prog 129 #[.string (s.extract k s.size)] w1.drew fun e w'=>e=GaveX 1∧Below w1.heap.size w1.drew w'):=hto.mono (by
    rintro e w' ⟨h1,⟨h2,_⟩ | ⟨_,h3⟩⟩
    ·cases h2
    ·exact⟨h3,h1⟩)
   clear hto;go_upto_region 3 with fail;refine wp_region_held_drew (S:=fun w'=>w'.cell? ⟨R,0,none⟩=some (.string s)∧w'.cell? ⟨R,1,none⟩=some (.int .i64 k)) (by kernel_rfl) HCC.out.1 (fun hHeld=>?_);refine wpAnyH_take (i:=0) rfl (by kernel_rfl) (by kernel_rfl) (by kernel_rfl) (fun _ _ _ h=>h) (Or.inl ⟨by rfl,by (intro w hSw;(try dsimp only at hSw);go_simp;try with_reducible rfl)⟩) (by assumption) ?_
   (try simp only [Act.put,List.setIfInBounds_toArray,List.set_cons_zero,List.set_cons_succ])
   refine wpAnyH_take (i:=1) rfl (by kernel_rfl) (by kernel_rfl) (by kernel_rfl) (fun _ _ _ h=>h) (Or.inl ⟨by rfl,by (intro w hSw;(try dsimp only at hSw);go_simp;try with_reducible rfl)⟩) (by assumption) ?_
   (try simp only [Act.put,List.setIfInBounds_toArray,List.set_cons_zero,List.set_cons_succ])
   refine wpAnyH_take (i:=2) rfl (by kernel_rfl) (by kernel_rfl) (by kernel_rfl) (fun _ _ _ h=>h) (Or.inl ⟨by rfl,by (intro w hSw;(try dsimp only at hSw);go_simp;try with_reducible rfl)⟩) (by assumption) ?_
   (try simp only [Act.put,List.setIfInBounds_toArray,List.set_cons_zero,List.set_cons_succ])
   refine wpAnyH_take (i:=3) rfl (by kernel_rfl) (by kernel_rfl) (by kernel_rfl) (fun _ _ _ h=>h) (Or.inl ⟨by rfl,by (intro w hSw;(try dsimp only at hSw);go_simp;try with_reducible rfl)⟩) (by assumption) ?_
   (try simp only [Act.put,List.setIfInBounds_toArray,List.set_cons_zero,List.set_cons_succ])
   refine wpAnyH_take (i:=4) rfl (by kernel_rfl) (by kernel_rfl) (by kernel_rfl) (fun _ _ _ h=>h) (Or.inl ⟨by rfl,by (intro w hSw;(try dsimp only at hSw);go_simp;try with_reducible rfl)⟩) (by assumption) ?_
   (try simp only [Act.put,List.setIfInBounds_toArray,List.set_cons_zero,List.set_cons_succ])
   refine wpAnyH_take (i:=5) rfl (by kernel_rfl) (by kernel_rfl) (by kernel_rfl) (fun _ _ _ h=>h) (Or.inl ⟨by rfl,by (intro w hSw;(try dsimp only at hSw);go_simp;try with_reducible rfl)⟩) (by assumption) ?_
   (try simp only [Act.put,List.setIfInBounds_toArray,List.set_cons_zero,List.set_cons_succ])
   refine wpAnyH_take (i:=6) rfl (by kernel_rfl) (by kernel_rfl) (by kernel_rfl) (fun _ _ _ h=>h) (Or.inl ⟨by rfl,by (intro w hSw;(try dsimp only at hSw);go_simp;try with_reducible rfl)⟩) (by assumption) ?_
   (try simp only [Act.put,List.setIfInBounds_toArray,List.set_cons_zero,List.set_cons_succ])
   refine wpAnyH_take (i:=7) rfl (by kernel_rfl) (by kernel_rfl) (by kernel_rfl) (fun _ _ _ h=>h) (Or.inl ⟨by rfl,by (intro w hSw;(try dsimp only at hSw);go_simp;try with_reducible rfl)⟩) (by assumption) ?_
   (try simp only [Act.put,List.setIfInBounds_toArray,List.set_cons_zero,List.set_cons_succ])
   refine wpAnyH_take (i:=8) rfl (by kernel_rfl) (by kernel_rfl) (by kernel_rfl) (fun _ _ _ h=>h) (Or.inl ⟨by rfl,by (intro w hSw;(try dsimp only at hSw);go_simp;try with_reducible rfl)⟩) (by assumption) ?_
   (try simp only [Act.put,List.setIfInBounds_toArray,List.set_cons_zero,List.set_cons_succ])
   refine wpAnyH_ready (rs:=[9]) (by kernel_rfl) (by simp) ?_;refine AllReadyH.cons rfl (fun K hK=>?_) AllReadyH.nil
   go_simp
   refine HT3.out.mono ?_;rintro e w3 ⟨rfl,hb3⟩;exact⟨rfl,.inl ⟨HE.out,rfl,AP1.out.drew.trans (Ap.of_below hb3)⟩⟩
  | true =>
   have HT3:Hid (Calls prog 129 #[.string (s.extract k s.size)] w1.drew fun e w'=>(∃ v,e=.returned v)∧Below w1.heap.size w1.drew w'):=hto.mono (by
    rintro e w' ⟨h1,⟨_,h2⟩ | ⟨h3,_⟩⟩
    ·exact⟨⟨_,h2⟩,h1⟩
    ·cases h3)
   clear hto
   go_region_held3 (fun w'=>w'.cell? ⟨R,0,none⟩=some (.string s)∧w'.cell? ⟨R,1,none⟩=some (.int .i64 k)) (first
    | exact HCC.out.1
    | exact HCC.out.2 _ hb3) (first | (go_at_call 129;refine HT3.out.mono ?_;rintro e w3 ⟨⟨v3,rfl⟩,hb3⟩))
   all_goals
    go_wp2_with fail;refine(z3g 1 _).mono ?_;rintro e w4 ⟨rfl,hw4⟩;subst w4;go_wp2_with fail;exact⟨rfl,.inl ⟨HE.out,rfl,AP1.out.drew.trans (Ap.of_below hb3)⟩⟩
 ·subst h1
  rw[HZ.out] at h2;have HE:=Ld h3;have hi1:(k:Int) + i≤s.size:=by omega
  have hi2:(i:Int)≤s.size:=by omega
  have hwi:IntKind.i64.wrap ((k:Int) + i)=(k:Int) + i:=by rw[IntKind.wrap_i64];omega
  have hx:s.extract k (k + i)=st ((s.data.toList.drop k).take i):=by rw[Z4,Nat.add_sub_cancel_left]
  have HXX:=Ld hx;have HLE:Hid (((s.data.toList.drop k).take i).length=i):=by show _=_;rw[List.length_take,HZ.out];omega
  clear h3 H60 hx;go_enter func132,ntmps132;go_wp2_with fail
  go_quiet ((go_at_call 151;exact Calls.quiet_of_same (HC.out _)))
  go_wp2_with fail
  go_quiet (fail)
  go_wp2_with fail;rw[HXX.out];go_ret;refine .inr ⟨_,_,HE.out,by rfl,by rw[HLE.out];omega,?_,((Moved.refl R w).drewN _).setCell 1 _⟩;rw[HLE.out,show ((k:Int) + (i:Int))=((k + i:Nat):Int) by omega];exact(HX.out.drewN _).at_ _
end
end Go.Proofs.YtagleefekmdldaaGreatDoor
namespace Fd
open Mk
theorem j1c {deep:Int} {s r:Bs} {x:El} (h:z5l deep s=.ok x r):1 + x.name.length + Fo.atB x.ats + Fo.bulk x.kids + 5 * r.length≤5 * s.length:=q2v _ _ _ _ _ h
theorem j1m {n:Bs} (h:X0 n=true):n ≠ []:=by
 unfold X0 at h;rw[Bool.and_eq_true,Bool.and_eq_true,decide_eq_true_iff] at h;exact h.1.2
theorem j6q {s:Bs} {e:Int} (h:X5 s=.er e):e=1:=by
 unfold X5 at h
 split at h
 ·cases h
 ·injection h with h;exact h.symm
theorem elem_n {deep:Int} {s:Bs} {e:Int} (h:z05 [60] s=.er e):z5l deep s=.er e:=by rw[q02,h]
theorem elem_t {deep:Int} {s r:Bs} {u:Unit} {e:Int} (h:z05 [60] s=.ok u r) (h2:X5 r=.er e):z5l deep s=.er e:=by rw[q02,h];simp only;rw[h2]
theorem elem_d {deep:Int} {s r nm z:Bs} {u:Unit} (h:z05 [60] s=.ok u r) (h2:X5 r=.ok nm z) (h3:8 < deep):z5l deep s=.er 2:=by rw[q02,h];simp only;rw[h2];simp only;rw[if_pos h3]
def q45 (deep:Int) (nm z:Bs):Rs El :=
 match z1u z with
 | .er e=>.er e
 | .ok l z =>
  if Mg.pre [47,62] z then .ok ⟨nm,l,.nil⟩ (z.drop 2)
  else match z05 [62] z with
   | .er e=>.er e
   | .ok _ y =>
    match z0g deep y .nil with
    | .er e=>.er e
    | .ok k x =>
     match X5 x with
     | .er e=>.er e
     | .ok nm2 v=>if nm2 ≠ nm then .er 4 else
      match z05 [62] (V9 v) with
      | .er e=>.er e
      | .ok _ o=>.ok ⟨nm,l,k⟩ o
theorem elem_y {deep:Int} {s r nm z:Bs} {u:Unit} (h:z05 [60] s=.ok u r) (h2:X5 r=.ok nm z) (h3:¬ 8 < deep):z5l deep s=q45 deep nm z:=by
 rw[q02,h];simp only;rw[h2];simp only;rw[if_neg h3];rfl
theorem elemY_a {deep:Int} {nm z:Bs} {e:Int} (h:z1u z=.er e):q45 deep nm z=.er e:=by rw[q45,h]
theorem elemY_c {deep:Int} {nm z y:Bs} {l:List At} (h:z1u z=.ok l y) (h2:Mg.pre [47,62] y=true):q45 deep nm z=.ok ⟨nm,l,.nil⟩ (y.drop 2):=by rw[q45,h];simp only;rw[if_pos h2]
theorem elemY_n {deep:Int} {nm z y:Bs} {l:List At} {e:Int} (h:z1u z=.ok l y) (h2:Mg.pre [47,62] y=false) (h3:z05 [62] y=.er e):q45 deep nm z=.er e:=by
 rw[q45,h];simp only;rw[if_neg (by rw[h2];simp),h3]
def q2a (deep:Int) (nm:Bs) (l:List At) (y:Bs):Rs El :=
 match z0g deep y .nil with
 | .er e=>.er e
 | .ok k x =>
  match X5 x with
  | .er e=>.er e
  | .ok nm2 v=>if nm2 ≠ nm then .er 4 else
   match z05 [62] (V9 v) with
   | .er e=>.er e
   | .ok _ o=>.ok ⟨nm,l,k⟩ o
theorem elemY_z {deep:Int} {nm z y x:Bs} {l:List At} {u:Unit} (h:z1u z=.ok l y) (h2:Mg.pre [47,62] y=false) (h3:z05 [62] y=.ok u x):q45 deep nm z=q2a deep nm l x:=by
 rw[q45,h];simp only;rw[if_neg (by rw[h2];simp),h3];rfl
theorem elemZ_k {deep:Int} {nm y:Bs} {l:List At} {e:Int} (h:z0g deep y .nil=.er e):q2a deep nm l y=.er e:=by rw[q2a,h]
theorem elemZ_t {deep:Int} {nm y x:Bs} {l:List At} {k:Fo} {e:Int} (h:z0g deep y .nil=.ok k x) (h2:X5 x=.er e):q2a deep nm l y=.er e:=by rw[q2a,h];simp only;rw[h2]
theorem elemZ_s {deep:Int} {nm y x nm2 v:Bs} {l:List At} {k:Fo} (h:z0g deep y .nil=.ok k x) (h2:X5 x=.ok nm2 v) (h3:nm2 ≠ nm):q2a deep nm l y=.er 4:=by rw[q2a,h];simp only;rw[h2];simp only;rw[if_pos h3]
theorem elemZ_e {deep:Int} {nm y x v:Bs} {l:List At} {k:Fo} (h:z0g deep y .nil=.ok k x) (h2:X5 x=.ok nm v):q2a deep nm l y=match z05 [62] (V9 v) with | .er e=>.er e | .ok _ o=>.ok ⟨nm,l,k⟩ o:=by
 rw[q2a,h];simp only;rw[h2];simp only;rw[if_neg (fun q=>q rfl)]
end Fd
namespace Go.Proofs.YtagleefekmdldaaGreatDoor
open Go.RowKit
def Nw (w w':World) (b:Nat):Prop:=w.heap.size≤b∧b < w'.heap.size
def j3k:Array Value:=#[.string ⟨#[]⟩,.slice none 0 0,.string ⟨#[]⟩,.slice none 0 0]
structure ElI (w wx:World) (R:Nat) (s:ByteArray) (j C N:Nat) (nm:List UInt8) (va:Value) (l:List Mk.At) (vk:Value) (f:Mk.Fo) (K:Nat→Prop):Prop where
 rl:R < w.heap.size
 x:Xr wx R s j
 ap:Ap (fun b=>b=R) w wx
 cl:w.heap.size≤C
 nl:w.heap.size≤N
 cn:C ≠ N
 cb:Blk wx C 38 j3k
 nb:Blk wx N 38 #[.string (st nm),va,.string ⟨#[]⟩,vk]
 kk:∀ b,K b→w.heap.size≤b∧b < wx.heap.size∧b ≠ C∧b ≠ N
 ats:AtsV wx K va l
 fo:FoV wx K vk f
section
variable {w wx wy : World} {R : Nat} {s : ByteArray} {j j' C N : Nat} {nm : List UInt8} {va vk : Value} {l : List Mk.At} {f : Mk.Fo} {K : Nat→Prop}
theorem ElI.ap2 (h:ElI w wx R s j C N nm va l vk f K) (ha:Ap (fun b=>b=R) wx wy) (hx:Xr wy R s j'):ElI w wy R s j' C N nm va l vk f K:=by
 have hr:=h.rl;have hc:=h.cl;have hn:=h.nl;have kp:∀ b,K b→K b∧wy.heap[b]? = wx.heap[b]?:=fun b hb=>⟨hb,ha.block b (h.kk b hb).2.1 (fun e=>by have:=(h.kk b hb).1;have e:b=R:=e;omega)⟩
 exact⟨h.rl,hx,h.ap.trans ha,h.cl,h.nl,h.cn,h.cb.ap ha (fun e=>by have e:C=R:=e;omega),h.nb.ap ha (fun e=>by have e:N=R:=e;omega),fun b hb=>⟨(h.kk b hb).1,Nat.lt_of_lt_of_le (h.kk b hb).2.1 ha.size,(h.kk b hb).2.2⟩,h.ats.frame kp,h.fo.frame kp⟩
theorem ElI.moved (h:ElI w wx R s j C N nm va l vk f K) (hm:Moved R wx wy) (hx:Xr wy R s j'):ElI w wy R s j' C N nm va l vk f K:=h.ap2 hm.ap hx
theorem ElI.drewN (h:ElI w wx R s j C N nm va l vk f K) (n:Nat):ElI w (wx.drewN n) R s j C N nm va l vk f K:=h.moved ((Moved.refl R wx).drewN n) (h.x.drewN n)
theorem ElI.gl (h:ElI w wx R s j C N nm va l vk f K) (hg:Gl w) (hR:1 < R):Gl wx:=hg.ap h.ap (by intro e;have e:0=R:=e;omega) (by intro e;have e:1=R:=e;omega)
theorem q05 {K:Nat→Prop} {w:World} {g i:Nat} {v:Value} (h:∀ b,K b→b ≠ g):∀ b,K b→K b∧(w.setCell ⟨g,i,none⟩ v).heap[b]? = w.heap[b]?:=fun b hb=>⟨hb,Below.heap_setCell w ⟨g,i,none⟩ v b (h b hb)⟩
theorem ElI.begin_ (h0:Xr wx R s j) (hr:R < w.heap.size) (hap:Ap (fun b=>b=R) w wx) (hcl:w.heap.size≤C) (hcb:Blk wx C 38 j3k) (nm:List UInt8):ElI w (wx.alloc (.cells #[.string (st nm),.slice none 0 0,.string ⟨#[]⟩,.slice none 0 0] 38)) R s j C wx.heap.size nm (.slice none 0 0) [] (.slice none 0 0) .nil (fun _=>False) :=
 ⟨hr,Blk.alloc h0 _,hap.alloc _,hcl,hap.size,fun e=>by have:=hcb.lt;omega,hcb.alloc _,Blk.new wx _ _,fun _ q=>q.elim,AtsV.nil _ _,⟨none,0,[],rfl,.inl rfl,rfl,Nat.zero_le _⟩⟩
theorem ElI.setAts (h:ElI w wx R s j C N nm va l vk f K) {v:Value} {la:List Mk.At} (ha:AtI wx wy R s j' v la):ElI w (wy.setCell ⟨N,1,none⟩ v) R s j' C N nm v la vk f (fun b=>K b∨Nw wx wy b):=by
 have h1:=h.ap2 ha.ap ha.x;have hr:=h.rl;have hn:=h.nl;have hnl:=h.nb.lt;have hcl:=h.cb.lt;have hsz:=ha.ap.size;have kne:∀ b,(K b∨Nw wx wy b)→b ≠ N:=by
  rintro b (q | q)
  ·exact(h.kk b q).2.2.2
  ·intro e;subst e;have:=q.1;omega
 refine⟨hr,Blk.far h1.x (p:=⟨N,1,none⟩) (fun e=>by have e:R=N:=e;omega) _,h1.ap.setNew (p:=⟨N,1,none⟩) hn _,h.cl,hn,h.cn,Blk.far h1.cb (p:=⟨N,1,none⟩) h.cn _,Blk.set_ h1.nb 1 _,?_,?_,?_⟩
 ·rintro b (q | q)
  ·obtain⟨a1,a2,a3⟩:=h1.kk b q
   exact⟨a1,by simpa [World.setCell] using a2,a3⟩
  ·exact⟨Nat.le_trans h.ap.size q.1,by have:=q.2;simpa [World.setCell] using this,fun e=>by subst e;have:=q.1;omega,kne b (.inr q)⟩
 ·have:AtsV wy (fun b=>K b∨Nw wx wy b) v la:=AtsV.of_own ha.ow (fun g hg=>.inr ⟨(ha.ow.lt g hg).1,(ha.ow.lt g hg).2⟩)
  exact this.frame (q05 kne)
 ·have:FoV wy (fun b=>K b∨Nw wx wy b) vk f:=h1.fo.frame (fun b hb=>⟨.inl hb,rfl⟩)
  exact this.frame (q05 kne)
theorem ElI.setKids (h:ElI w wx R s j C N nm va l vk f K) {v:Value} {g:Mk.Fo} (hx:Xr wy R s j') (ha:Ap (fun b=>b=R) wx wy) (hf:FoV wy (Nw wx wy) v g):ElI w (wy.setCell ⟨N,3,none⟩ v) R s j' C N nm va l v g (fun b=>K b∨Nw wx wy b):=by
 have h1:=h.ap2 ha hx;have hr:=h.rl;have hn:=h.nl;have hnl:=h.nb.lt;have hcl:=h.cb.lt;have hsz:=ha.size;have kne:∀ b,(K b∨Nw wx wy b)→b ≠ N:=by
  rintro b (q | q)
  ·exact(h.kk b q).2.2.2
  ·intro e;subst e;have:=q.1;omega
 refine⟨hr,Blk.far h1.x (p:=⟨N,3,none⟩) (fun e=>by have e:R=N:=e;omega) _,h1.ap.setNew (p:=⟨N,3,none⟩) hn _,h.cl,hn,h.cn,Blk.far h1.cb (p:=⟨N,3,none⟩) h.cn _,Blk.set_ h1.nb 3 _,?_,?_,?_⟩
 ·rintro b (q | q)
  ·obtain⟨a1,a2,a3⟩:=h1.kk b q
   exact⟨a1,by simpa [World.setCell] using a2,a3⟩
  ·exact⟨Nat.le_trans h.ap.size q.1,by have:=q.2;simpa [World.setCell] using this,fun e=>by subst e;have:=q.1;omega,kne b (.inr q)⟩
 ·have:AtsV wy (fun b=>K b∨Nw wx wy b) va l:=h1.ats.frame (fun b hb=>⟨.inl hb,rfl⟩)
  exact this.frame (q05 kne)
 ·have:FoV wy (fun b=>K b∨Nw wx wy b) v g:=hf.frame (fun b hb=>⟨.inr hb,rfl⟩)
  exact this.frame (q05 kne)
def ansW (wx:World) (C:Nat) (a b c d:Value):World:=(((wx.setCell ⟨C,0,none⟩ a).setCell ⟨C,1,none⟩ b).setCell ⟨C,2,none⟩ c).setCell ⟨C,3,none⟩ d
theorem ElI.ans (h:ElI w wx R s j C N nm va l vk f K):Blk (ansW wx C (.string (st nm)) va (.string ⟨#[]⟩) vk) C 38 #[.string (st nm),va,.string ⟨#[]⟩,vk]∧Xr (ansW wx C (.string (st nm)) va (.string ⟨#[]⟩) vk) R s j∧Ap (fun b=>b=R) w (ansW wx C (.string (st nm)) va (.string ⟨#[]⟩) vk)∧AtsV (ansW wx C (.string (st nm)) va (.string ⟨#[]⟩) vk) (Nw w (ansW wx C (.string (st nm)) va (.string ⟨#[]⟩) vk)) va l∧FoV (ansW wx C (.string (st nm)) va (.string ⟨#[]⟩) vk) (Nw w (ansW wx C (.string (st nm)) va (.string ⟨#[]⟩) vk)) vk f:=by
 have hr:=h.rl;have hc:=h.cl;have hRC:R ≠ C:=by omega
 have hsz:(ansW wx C (.string (st nm)) va (.string ⟨#[]⟩) vk).heap.size=wx.heap.size:=by simp[ansW,World.setCell]
 have kp:∀ b,K b→Nw w (ansW wx C (.string (st nm)) va (.string ⟨#[]⟩) vk) b∧(ansW wx C (.string (st nm)) va (.string ⟨#[]⟩) vk).heap[b]? = wx.heap[b]?:=by
  intro b hb;obtain⟨a1,a2,a3,_⟩:=h.kk b hb;refine⟨⟨a1,by rw[hsz];exact a2⟩,?_⟩;unfold ansW;rw[Below.heap_setCell _ ⟨C,3,none⟩ _ b a3,Below.heap_setCell _ ⟨C,2,none⟩ _ b a3,Below.heap_setCell _ ⟨C,1,none⟩ _ b a3,Below.heap_setCell _ ⟨C,0,none⟩ _ b a3]
 refine⟨Blk.set_ (Blk.set_ (Blk.set_ (Blk.set_ h.cb 0 _) 1 _) 2 _) 3 _,?_,?_,h.ats.frame kp,h.fo.frame kp⟩
 ·exact Blk.far (Blk.far (Blk.far (Blk.far h.x (p:=⟨C,0,none⟩) hRC _) (p:=⟨C,1,none⟩) hRC _) (p:=⟨C,2,none⟩) hRC _) (p:=⟨C,3,none⟩) hRC _
 ·exact(((h.ap.setNew (p:=⟨C,0,none⟩) hc _).setNew (p:=⟨C,1,none⟩) hc _).setNew (p:=⟨C,2,none⟩) hc _).setNew (p:=⟨C,3,none⟩) hc _
end
end Go.Proofs.YtagleefekmdldaaGreatDoor
namespace Go.Proofs.YtagleefekmdldaaGreatDoor
open Go.Proofs.Tryz Go.RowKit
section
variable {w0 w w' : World} {R : Nat} {s : ByteArray} {j C N : Nat} {nm : List UInt8} {va vk : Value} {l : List Mk.At} {f : Mk.Fo} {K : Nat→Prop}
theorem j0a (p:List UInt8) (h:Xr w R s j) (hk:j≤s.size) (hs:s.size≤100000) :
  Calls prog 98 #[.pointer (some ⟨R,0,none⟩),.string (st p)] w fun e w'=>(Fd.z05 p (s.data.toList.drop j)=.ok () (s.data.toList.drop (j + p.length))∧j + p.length≤s.size∧e=.returned (.tuple #[])∧Xr w' R s (j + p.length)∧Moved R w w')∨(Fd.z05 p (s.data.toList.drop j)=.er 1∧e=GaveX 1∧Xr w' R s j∧Moved R w w'):=by
 refine(j7d p h hk (by omega)).mono ?_;rintro e w1 (⟨h1,h2,h3,h4,h5⟩ | ⟨h1,h2,n,h3⟩)
 ·exact .inl ⟨by rw[Fd.z05,if_pos h1,List.drop_drop],h2,h3,h4,h5⟩
 ·subst h3
  exact .inr ⟨by rw[Fd.z05,if_neg (by rw[h1];simp)],h2,h.drewN n,(Moved.refl R w).drewN n⟩
theorem j09 (p:List UInt8) (h:ElI w0 w R s j C N nm va l vk f K) (hk:j≤s.size) (hs:s.size≤100000) :
  Calls prog 98 #[.pointer (some ⟨R,0,none⟩),.string (st p)] w fun e w'=>(Fd.z05 p (s.data.toList.drop j)=.ok () (s.data.toList.drop (j + p.length))∧j + p.length≤s.size∧e=.returned (.tuple #[])∧ElI w0 w' R s (j + p.length) C N nm va l vk f K)∨(Fd.z05 p (s.data.toList.drop j)=.er 1∧e=GaveX 1∧ElI w0 w' R s j C N nm va l vk f K):=by
 refine(j0a p h.x hk hs).mono ?_;rintro e w1 (⟨h1,h2,h3,h4,h5⟩ | ⟨h1,h2,h3,h4⟩)
 ·exact .inl ⟨h1,h2,h3,h.moved h5 h4⟩
 ·exact .inr ⟨h1,h2,h.moved h4 h3⟩
theorem j3h (p:List UInt8) (h:ElI w0 w R s j C N nm va l vk f K) (hk:j≤s.size) (hs:s.size≤100000) :
  Calls prog 101 #[.pointer (some ⟨R,0,none⟩),.string (st p)] w fun e w'=>e=.returned (.bool (Mg.pre p (s.data.toList.drop j)))∧ElI w0 w' R s j C N nm va l vk f K:=by
 refine(z4l p h.x hk (by omega)).mono ?_;rintro e w1 ⟨rfl,n,hw⟩;subst hw;exact⟨rfl,h.drewN n⟩
theorem j7e (h:ElI w0 w R s j C N nm va l vk f K) (hk:j≤s.size) (hs:s.size≤100000) :
  Calls prog 96 #[.pointer (some ⟨R,0,none⟩)] w fun e w'=>∃ j1,j≤j1∧j1≤s.size∧s.data.toList.drop j1=Fd.V9 (s.data.toList.drop j)∧e=.returned (.int .i64 ((j1:Int) - j))∧ElI w0 w' R s j1 C N nm va l vk f K:=by
 refine(q0d h.x hk (by omega)).mono ?_;rintro e w1 ⟨j1,h1,h2,h3,h4,h5,h6⟩;exact⟨j1,h1,h2,h4,h3,h.moved h6 h5⟩
end
def ElemC (s:ByteArray) (R M:Nat):Prop:=∀ (deep:Int) (k:Nat) (w:World),s.size - k < M→k≤s.size→1≤deep→deep≤9→Gl w→Xr w R s k →
 Calls prog 64 #[.pointer (some ⟨R,0,none⟩),.int .i64 deep] w fun e w' =>
  (∃ er,Fd.z5l deep (s.data.toList.drop k)=.er er∧e=GaveX er∧Ap (fun b=>b=R) w w') ∨
  ∃ x j va vk,Fd.z5l deep (s.data.toList.drop k)=.ok x (s.data.toList.drop j)∧e=.returned (z0d x.name va [] vk)∧k < j∧j≤s.size∧Xr w' R s j∧Ap (fun b=>b=R) w w'∧AtsV w' (Nw w w') va x.ats∧FoV w' (Nw w w') vk x.kids∧x.name ≠ []
def KidsC (s:ByteArray) (R M:Nat):Prop:=∀ (deep:Int) (k:Nat) (w:World),s.size - k < M→k≤s.size→1≤deep→deep≤8→Gl w→Xr w R s k →
 Calls prog 102 #[.pointer (some ⟨R,0,none⟩),.int .i64 deep] w fun e w' =>
  (∃ er,Fd.z0g deep (s.data.toList.drop k) .nil=.er er∧e=GaveX er∧Ap (fun b=>b=R) w w') ∨
  ∃ f j v,Fd.z0g deep (s.data.toList.drop k) .nil=.ok f (s.data.toList.drop j)∧e=.returned v∧k≤j∧j≤s.size∧Xr w' R s j∧Ap (fun b=>b=R) w w'∧FoV w' (Nw w w') v f
theorem j3i {s:ByteArray} {R:Nat} (M:Nat) (hR:1 < R) (hs:s.size≤100000) (HK:KidsC s R M):ElemC s R (M + 1):=by
 intro deep k w hM hk hd1 hd9 hg h;have hst:∀ l:List UInt8,(st l).toList=l:=fun l=>Lib.toList_data _
 have HG:=Ld hg;have hRl:R < w.heap.size:=Blk.lt h;have HKI:=Ld HK;have X1:=Ld (show Xr (w.alloc (.cells #[.string ⟨#[]⟩,.slice none 0 0,.string ⟨#[]⟩,.slice none 0 0] 38)) R s k from Blk.alloc h _);have CB1:Hid (Blk (w.alloc (.cells #[.string ⟨#[]⟩,.slice none 0 0,.string ⟨#[]⟩,.slice none 0 0] 38)) w.heap.size 38 j3k):=Blk.new w 38 j3k;have AP1:=Ld ((Ap.refl (fun b=>b=R) w).alloc (.cells #[.string ⟨#[]⟩,.slice none 0 0,.string ⟨#[]⟩,.slice none 0 0] 38));clear hg h HK;go_enter func64,ntmps64;go_upto_region 1 with fail;generalize w.alloc (.cells #[.string ⟨#[]⟩,.slice none 0 0,.string ⟨#[]⟩,.slice none 0 0] 38)=w1 at X1 CB1 AP1 ⊢;obtain⟨C,hC⟩:∃ C,C=w.heap.size:=⟨_,rfl⟩;rw[← hC] at CB1;rw[← hC];have hcl:w.heap.size≤C:=by omega
 clear hC;have HN:=Ld (j0a [60] X1.out hk hs);go_wp2_with fail;refine HN.out.mono ?_;rintro e w2 (⟨hn,hj1,rfl,hx,hm⟩ | ⟨hn,rfl,hx,hm⟩)
 case inr =>
  have AP:=Ld (AP1.out.trans hm.ap);have HE:=Ld (Fd.elem_n (deep:=deep) hn);clear hn hx hm HN;go_wp2_with fail;exact⟨rfl,.inl ⟨1,HE.out,rfl,AP.out⟩⟩
 have hj1:k + 1≤s.size:=hj1;have HN1:Hid (Fd.z05 [60] (s.data.toList.drop k)=.ok () (s.data.toList.drop (k + 1))):=hn;have X2:Hid (Xr w2 R s (k + 1)):=hx;have AP2:=Ld (AP1.out.trans hm.ap);have CB2:=Ld (hm.blk CB1.out (by omega));clear hn hx hm HN X1 AP1 CB1;have HT:=Ld (q5a X2.out hj1 (by omega));go_wp2_with fail;refine HT.out.mono ?_;rintro e w3 (⟨ht,rfl,hm⟩ | ⟨nm,j2,ht,rfl,hj2,hjs2,hx,hm,hit⟩)
 ·have AP:=Ld (AP2.out.trans hm.ap)
  have HE:=Ld (Fd.elem_t (deep:=deep) HN1.out ht);clear ht hm HT;go_wp2_with fail;exact⟨rfl,.inl ⟨1,HE.out,rfl,AP.out⟩⟩
 have HTI:=Ld ht;have HIT:=Ld (Fd.j1m hit);have CB3:=Ld (hm.blk CB2.out (by omega));have I3:=Ld (ElI.begin_ hx hRl (AP2.out.trans hm.ap) hcl CB3.out nm);clear ht hx hm HT hit X2 AP2 CB2 CB3;go_upto_region 3 with fail;obtain⟨N,hN⟩:∃ N,N=w3.heap.size:=⟨_,rfl⟩;rw[← hN] at I3;rw[← hN];generalize w3.alloc (.cells #[.string (st nm),.slice none 0 0,.string ⟨#[]⟩,.slice none 0 0] 38)=w4 at I3 ⊢;clear hN
 by_cases hdp:8 < deep
 ·have HE:=Ld (Fd.elem_d (deep:=deep) HN1.out HTI.out hdp)
  go_wp2_with fail;refine(z3g 2 _).mono ?_;rintro e w5 ⟨rfl,hw5⟩;subst w5;go_wp2_with fail;exact⟨rfl,.inl ⟨2,HE.out,rfl,I3.out.ap⟩⟩
 have HEY:=Ld (Fd.elem_y (deep:=deep) HN1.out HTI.out hdp);have HAT:=Ld (xr_attrs (I3.out.gl HG.out hR) hR I3.out.x hjs2 hs);clear HN1 HTI;go_wp2_with fail;refine HAT.out.mono ?_;rintro e w5 (⟨er,ha,rfl,hap⟩ | ⟨l,j3,v,ha,rfl,hj3,hjs3,hbk,hI⟩)
 ·have AP:=Ld (I3.out.ap.trans hap)
  have HE:=Ld (HEY.out.trans (Fd.elemY_a ha));clear ha hap HAT;go_wp2_with fail;exact⟨rfl,.inl ⟨er,HE.out,rfl,AP.out⟩⟩
 have HAA:=Ld ha;obtain⟨aoa,capa,hv3⟩:=Y1 hI.ow;subst hv3;have I4:=Ld (I3.out.setAts hI);have NB4:=(I3.out.ap2 hI.ap hI.x).nb;have p1:=Blk.frozen NB4 1;have p2:w5.cell? ⟨N,1,none⟩=some (.slice none 0 0):=Blk.cell NB4 1;clear ha hI HAT NB4 I3;go_upto_region 6 with fail;generalize w5.setCell ⟨N,1,none⟩ (.slice aoa l.length capa)=w6 at I4 ⊢;clear p1 p2;generalize hKK:(fun b=>False∨Nw w4 w5 b)=K4 at I4;clear hKK;have HB:=Ld (j3h [47,62] I4.out hjs3 hs);go_wp2_with fail;refine HB.out.mono ?_;rintro e w7 ⟨rfl,hI⟩;have I5:=Ld hI;clear hI HB I4;obtain⟨b,hb⟩:∃ b,Mg.pre [47,62] (s.data.toList.drop j3)=b:=⟨_,rfl⟩;rw[hb];have HPB:=Ld hb;clear hb
 cases b with
 | true =>
  have h3:=Fd.z0t HPB.out;rw[List.length_drop,bs_len] at h3;have h3:j3 + 2≤s.size:=by
   simp only [List.length_cons,List.length_nil] at h3;omega
  have HE:Hid (Fd.z5l deep (s.data.toList.drop k)=.ok ⟨nm,l,.nil⟩ (s.data.toList.drop (j3 + 2))):=by
   show _=_;rw[HEY.out,Fd.elemY_c HAA.out HPB.out,List.drop_drop]
  have c1:=I5.out.x.c1;have f1:=I5.out.x.fz 1;have I6:Hid (ElI w (w7.setCell ⟨R,1,none⟩ (.int .i64 ((j3:Int) + 2))) R s (j3 + 2) C N nm (.slice aoa l.length capa) l (.slice none 0 0) .nil K4):=I5.out.moved ((Moved.refl R w7).setCell 1 _) (by have:=I5.out.x.at_ (j3 + 2);simpa using this);clear HEY HAA HPB I5;go_upto_region 8 with fail;generalize w7.setCell ⟨R,1,none⟩ (.int .i64 ((j3:Int) + 2))=w8 at I6 ⊢;clear c1 f1;have n0:w8.cell? ⟨N,0,none⟩=some (.string (st nm)):=Blk.cell I6.out.nb 0;have n1:w8.cell? ⟨N,1,none⟩=some (.slice aoa l.length capa):=Blk.cell I6.out.nb 1;have n2:w8.cell? ⟨N,2,none⟩=some (.string ⟨#[]⟩):=Blk.cell I6.out.nb 2;have n3:w8.cell? ⟨N,3,none⟩=some (.slice none 0 0):=Blk.cell I6.out.nb 3;have z0:w8.cell? ⟨C,0,none⟩=some (.string ⟨#[]⟩):=Blk.cell I6.out.cb 0;have z1:w8.cell? ⟨C,1,none⟩=some (.slice none 0 0):=Blk.cell I6.out.cb 1;have z2:w8.cell? ⟨C,2,none⟩=some (.string ⟨#[]⟩):=Blk.cell I6.out.cb 2;have z3:w8.cell? ⟨C,3,none⟩=some (.slice none 0 0):=Blk.cell I6.out.cb 3;have y:∀ i,w8.frozen? ⟨C,i,none⟩=false:=Blk.frozen I6.out.cb;obtain⟨ANS1,ANS2,ANS3,ANS4,ANS5⟩:=I6.out.ans;have FIN:Hid (∃ x j va vk,Fd.z5l deep (s.data.toList.drop k)=.ok x (s.data.toList.drop j)∧z0d nm (.slice aoa l.length capa) [] (.slice none 0 0)=z0d x.name va [] vk∧k < j∧j≤s.size∧Xr (ansW w8 C (.string (st nm)) (.slice aoa l.length capa) (.string ⟨#[]⟩) (.slice none 0 0)) R s j∧Ap (fun b=>b=R) w (ansW w8 C (.string (st nm)) (.slice aoa l.length capa) (.string ⟨#[]⟩) (.slice none 0 0))∧AtsV (ansW w8 C (.string (st nm)) (.slice aoa l.length capa) (.string ⟨#[]⟩) (.slice none 0 0)) (Nw w (ansW w8 C (.string (st nm)) (.slice aoa l.length capa) (.string ⟨#[]⟩) (.slice none 0 0))) va x.ats∧FoV (ansW w8 C (.string (st nm)) (.slice aoa l.length capa) (.string ⟨#[]⟩) (.slice none 0 0)) (Nw w (ansW w8 C (.string (st nm)) (.slice aoa l.length capa) (.string ⟨#[]⟩) (.slice none 0 0))) vk x.kids∧x.name ≠ []) :=
   ⟨⟨nm,l,.nil⟩,j3 + 2,.slice aoa l.length capa,.slice none 0 0,HE.out,rfl,by omega,h3,ANS2,ANS3,ANS4,ANS5,HIT.out⟩
  clear ANS1 ANS2 ANS3 ANS4 ANS5 HE I6;go_wp2_with fail;refine bodyPost_ret (v:=z0d nm (.slice aoa l.length capa) [] (.slice none 0 0)) (by simp[results,results64,go_sem, *];rfl) rfl (.inr ?_);obtain⟨x,j,va,vk,q1,q2,q3⟩:=FIN.out;exact⟨x,j,va,vk,q1,by rw[q2],q3⟩
 | false =>
  have HN5:=Ld (j09 [62] I5.out hjs3 hs);go_wp2_with fail;refine HN5.out.mono ?_;rintro e w8 (⟨hn,hj4,rfl,hI⟩ | ⟨hn,rfl,hI⟩)
  case inr =>
   have AP:=Ld hI.ap;have HE:=Ld (HEY.out.trans (Fd.elemY_n HAA.out HPB.out hn));clear hn hI HN5;go_wp2_with fail;exact⟨rfl,.inl ⟨1,HE.out,rfl,AP.out⟩⟩
  have hj4:j3 + 1≤s.size:=hj4;have HEZ:=Ld (HEY.out.trans (Fd.elemY_z HAA.out HPB.out hn));have HEZ:Hid (Fd.z5l deep (s.data.toList.drop k)=Fd.q2a deep nm l (s.data.toList.drop (j3 + 1))):=HEZ;have I6:Hid (ElI w w8 R s (j3 + 1) C N nm (.slice aoa l.length capa) l (.slice none 0 0) .nil K4):=hI;clear hn hI HN5 I5 HEY HAA HPB;have HKD:=Ld (HKI.out deep (j3 + 1) w8 (by omega) hj4 hd1 (by omega) (I6.out.gl HG.out hR) I6.out.x);go_wp2_with fail;refine HKD.out.mono ?_;rintro e w9 (⟨er,hk1,rfl,hap⟩ | ⟨f,j5,vk,hk1,rfl,hj5,hjs5,hx,hap,hfo⟩)
  ·have AP:=Ld (I6.out.ap.trans hap)
   have HE:=Ld (HEZ.out.trans (Fd.elemZ_k hk1));clear hk1 hap HKD;go_wp2_with fail;exact⟨rfl,.inl ⟨er,HE.out,rfl,AP.out⟩⟩
  have HKX:=Ld hk1;obtain⟨aok,capk,xsk,hvk5,_⟩:=id hfo;subst hvk5;have I7:=Ld (I6.out.setKids hx hap hfo);have NB9:=(I6.out.ap2 hap hx).nb;have p1:=Blk.frozen NB9 3;have p2:w9.cell? ⟨N,3,none⟩=some (.slice none 0 0):=Blk.cell NB9 3;clear hk1 hx hap hfo HKD NB9 I6;go_upto_region 11 with fail;generalize w9.setCell ⟨N,3,none⟩ (.slice aok f.len capk)=w10 at I7 ⊢;clear p1 p2;generalize hKK:(fun b=>K4 b∨Nw w8 w9 b)=K5 at I7;clear hKK;have hNR:N ≠ R:=by have:=I7.out.nl;omega
  have HT2:=q5a (w:=w10.drew) (Blk.drew I7.out.x) hjs5 (by omega);have HNC:Hid (w10.drew.cell? ⟨N,0,none⟩=some (.string (st nm))∧∀ W,Moved R w10.drew W→W.cell? ⟨N,0,none⟩=some (.string (st nm))):=⟨Blk.cell (Blk.drew I7.out.nb) 0,fun W hW=>Blk.cell (hW.blk (Blk.drew I7.out.nb) hNR) 0⟩
  cases htt:Fd.X5 (s.data.toList.drop j5) with
  | er et =>
   have het:=Fd.j6q htt;subst het;have HT3:Hid (Calls prog 99 #[.pointer (some ⟨R,0,none⟩)] w10.drew fun e w'=>e=GaveX 1∧Moved R w10.drew w'):=HT2.mono (by
    rintro e w' (⟨_,h2,h3⟩ | ⟨a,b,h1,_⟩)
    ·exact⟨h2,h3⟩
    ·rw[htt] at h1;cases h1)
   have HE:=Ld (HEZ.out.trans (Fd.elemZ_t HKX.out htt));clear HT2 htt;refine wp_region_held_drew (S:=fun w'=>w'.cell? ⟨N,0,none⟩=some (.string (st nm))) (by kernel_rfl) HNC.out.1 (fun hHeld=>?_);refine wpAnyH_take (i:=0) rfl (by kernel_rfl) (by kernel_rfl) (by kernel_rfl) (fun _ _ _ h=>h) (Or.inl ⟨by rfl,by (intro w hSw;(try dsimp only at hSw);go_simp;try with_reducible rfl)⟩) (by assumption) ?_
   (try simp only [Act.put,List.setIfInBounds_toArray,List.set_cons_zero,List.set_cons_succ])
   refine wpAnyH_take (i:=2) rfl (by kernel_rfl) (by kernel_rfl) (by kernel_rfl) (fun _ _ _ h=>h) (Or.inl ⟨by rfl,by (intro w hSw;(try dsimp only at hSw);go_simp;try with_reducible rfl)⟩) (by assumption) ?_
   (try simp only [Act.put,List.setIfInBounds_toArray,List.set_cons_zero,List.set_cons_succ])
   refine wpAnyH_take (i:=3) rfl (by kernel_rfl) (by kernel_rfl) (by kernel_rfl) (fun _ _ _ h=>h) (Or.inl ⟨by rfl,by (intro w hSw;(try dsimp only at hSw);go_simp;try with_reducible rfl)⟩) (by assumption) ?_
   (try simp only [Act.put,List.setIfInBounds_toArray,List.set_cons_zero,List.set_cons_succ])
   refine wpAnyH_ready (rs:=[1]) (by kernel_rfl) (by simp) ?_;refine AllReadyH.cons rfl (fun K hK=>?_) AllReadyH.nil
   go_simp
   refine HT3.out.mono ?_;rintro e w11 ⟨rfl,hm11⟩;exact⟨rfl,.inl ⟨1,HE.out,rfl,I7.out.ap.trans (((Moved.refl R w10).drewN 1).trans hm11).ap⟩⟩
  | ok nm2 rr =>
   have HT3:Hid (Calls prog 99 #[.pointer (some ⟨R,0,none⟩)] w10.drew fun e w'=>e=.returned (.string (st nm2))∧Moved R w10.drew w'∧∃ j6,rr=s.data.toList.drop j6∧j5≤j6∧j6≤s.size∧Xr w' R s j6):=HT2.mono (by
    rintro e w' (⟨h1,_⟩ | ⟨a,b,h1,h2,h3,h4,h5,h6,_⟩)
    ·rw[htt] at h1;cases h1
    ·rw[htt] at h1
     injection h1 with e1 e2;subst e1;exact⟨h2,h6,b,e2,h3,h4,h5⟩)
   have HTT:=Ld htt;clear HT2 htt;obtain⟨bn,hbn⟩:∃ bn,(nm2 == nm)=bn:=⟨_,rfl⟩;have HBN:=Ld hbn
   go_cut [37] (fun b wx=>b=.bool (!bn)∧∃ j6,Hid (rr=s.data.toList.drop j6)∧j5≤j6∧j6≤s.size∧Hid (ElI w wx R s j6 C N nm (.slice aoa l.length capa) l (.slice aok f.len capk) f K5))
   case first =>
    as_aux_lemma =>
    cases bn
    all_goals
     go_region_held3 (fun w'=>w'.cell? ⟨N,0,none⟩=some (.string (st nm))) (first
      | exact HNC.out.1
      | exact HNC.out.2 _ hm11) (first | (go_at_call 99;refine HT3.out.mono ?_;rintro e w11 ⟨rfl,hm11,j6,hr6,hj6,hjs6,hx6⟩))
     all_goals
      have I8:=(I7.out.drewN 1).moved hm11 hx6;go_wp2_with fail;go_meet
      case rel=>exact⟨rfl,j6,hr6,hj6,hjs6,I8⟩
   case rest =>
   as_aux_lemma =>
   obtain⟨rfl,j6,HR6,hj6,hjs6,I8⟩:=hcut;obtain⟨w11,hw11⟩:∃ x,x=wc:=⟨_,rfl⟩;subst hw11;clear I7 HNC HT3 HBN
   cases bn with
   | false =>
    have hne:nm2 ≠ nm:=fun e=>by subst e;simp at hbn
    have HE:=Ld (HEZ.out.trans (Fd.elemZ_s HKX.out HTT.out hne));clear hne hbn;go_wp2_with fail;refine(z3g 4 _).mono ?_;rintro e w12 ⟨rfl,hw12⟩;subst w12;go_wp2_with fail;exact⟨rfl,.inl ⟨4,HE.out,rfl,I8.out.ap⟩⟩
   | true =>
    have hee:nm2=nm:=by simpa using hbn
    subst hee;have HTT2:Hid (Fd.X5 (s.data.toList.drop j5)=.ok nm2 (s.data.toList.drop j6)):=by show _=_;rw[HTT.out,HR6.out]
    have HEE:=Ld (HEZ.out.trans (Fd.elemZ_e HKX.out HTT2.out));clear hbn HTT HTT2 HR6 HEZ HKX;have HW8:=Ld (j7e I8.out hjs6 hs);go_wp2_with fail;refine HW8.out.mono ?_;rintro e w12 ⟨j7,hj7,hjs7,hd7,rfl,hI⟩;have I9:=Ld hI;rw[← hd7] at HEE;clear hI hd7 HW8 I8;have HN9:=Ld (j09 [62] I9.out hjs7 hs);go_wp2_with fail;refine HN9.out.mono ?_;rintro e w13 (⟨hn,hj8,rfl,hI⟩ | ⟨hn,rfl,hI⟩)
    case inr =>
     have AP:=Ld hI.ap;have HE:Hid (Fd.z5l deep (s.data.toList.drop k)=.er 1):=by show _=_;rw[HEE.out,hn]
     clear hn hI HN9;go_wp2_with fail;exact⟨rfl,.inl ⟨1,HE.out,rfl,AP.out⟩⟩
    have hj8:j7 + 1≤s.size:=hj8;have HE:Hid (Fd.z5l deep (s.data.toList.drop k)=.ok ⟨nm2,l,f⟩ (s.data.toList.drop (j7 + 1))):=by show _=_;rw[HEE.out,hn];rfl
    have I10:Hid (ElI w w13 R s (j7 + 1) C N nm2 (.slice aoa l.length capa) l (.slice aok f.len capk) f K5):=hI;clear hn hI HN9 I9 HEE;have n0:w13.cell? ⟨N,0,none⟩=some (.string (st nm2)):=Blk.cell I10.out.nb 0;have n1:w13.cell? ⟨N,1,none⟩=some (.slice aoa l.length capa):=Blk.cell I10.out.nb 1;have n2:w13.cell? ⟨N,2,none⟩=some (.string ⟨#[]⟩):=Blk.cell I10.out.nb 2;have n3:w13.cell? ⟨N,3,none⟩=some (.slice aok f.len capk):=Blk.cell I10.out.nb 3;have z0:w13.cell? ⟨C,0,none⟩=some (.string ⟨#[]⟩):=Blk.cell I10.out.cb 0;have z1:w13.cell? ⟨C,1,none⟩=some (.slice none 0 0):=Blk.cell I10.out.cb 1;have z2:w13.cell? ⟨C,2,none⟩=some (.string ⟨#[]⟩):=Blk.cell I10.out.cb 2;have z3:w13.cell? ⟨C,3,none⟩=some (.slice none 0 0):=Blk.cell I10.out.cb 3;have y:∀ i,w13.frozen? ⟨C,i,none⟩=false:=Blk.frozen I10.out.cb;obtain⟨ANS1,ANS2,ANS3,ANS4,ANS5⟩:=I10.out.ans;have FIN:Hid (∃ x j va vk,Fd.z5l deep (s.data.toList.drop k)=.ok x (s.data.toList.drop j)∧z0d nm2 (.slice aoa l.length capa) [] (.slice aok f.len capk)=z0d x.name va [] vk∧k < j∧j≤s.size∧Xr (ansW w13 C (.string (st nm2)) (.slice aoa l.length capa) (.string ⟨#[]⟩) (.slice aok f.len capk)) R s j∧Ap (fun b=>b=R) w (ansW w13 C (.string (st nm2)) (.slice aoa l.length capa) (.string ⟨#[]⟩) (.slice aok f.len capk))∧AtsV (ansW w13 C (.string (st nm2)) (.slice aoa l.length capa) (.string ⟨#[]⟩) (.slice aok f.len capk)) (Nw w (ansW w13 C (.string (st nm2)) (.slice aoa l.length capa) (.string ⟨#[]⟩) (.slice aok f.len capk))) va x.ats∧FoV (ansW w13 C (.string (st nm2)) (.slice aoa l.length capa) (.string ⟨#[]⟩) (.slice aok f.len capk)) (Nw w (ansW w13 C (.string (st nm2)) (.slice aoa l.length capa) (.string ⟨#[]⟩) (.slice aok f.len capk))) vk x.kids∧x.name ≠ []) :=
     ⟨⟨nm2,l,f⟩,j7 + 1,.slice aoa l.length capa,.slice aok f.len capk,HE.out,rfl,by omega,hj8,ANS2,ANS3,ANS4,ANS5,HIT.out⟩
    clear ANS1 ANS2 ANS3 ANS4 ANS5 HE I10;go_wp2_with fail;refine bodyPost_ret (v:=z0d nm2 (.slice aoa l.length capa) [] (.slice aok f.len capk)) (by simp[results,results64,go_sem, *];rfl) rfl (.inr ?_);obtain⟨x,j,va,vk,q1,q2,q3⟩:=FIN.out;exact⟨x,j,va,vk,q1,by rw[q2],q3⟩
end Go.Proofs.YtagleefekmdldaaGreatDoor
