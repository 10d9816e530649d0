/- Contract of shelf.Mark: an ii is marked. Condition: a right shelf. -/
import Derived.Test.YtjonkbdldebkiaaGreatDoorYWkE
import Derived.Test.YtjonkbdldebkiaaGreatDoorYUrlPlain
import Derived.Test.YtjonkbdldebkiaaGreatDoorYWfJ
import Derived.Test.YtjonkbdldebkiaaGreatDoorYMkTok5
set_option linter.unusedVariables false
set_option linter.unusedSimpArgs false
set_option maxHeartbeats 16000000
set_option maxRecDepth 100000
namespace Go.Proofs.YtjonkbdldebkiaaGreatDoor
open Go.Proofs.Tryz Go.RowKit
theorem j7c (s:Fd.Sh) (ii:List UInt8) (read:Bool) (ve vr:Value) (K:Nat→Prop) (w:World) (hg:Gl w) (hv:ShV w K ve vr s) (hK:∀ b,K b→b < w.heap.size) (hs:Fd.z0e s=0) :
  Calls prog 41 #[.agg #[ve,vr],.string (st ii),.bool read] w fun e w'=>Below w.heap.size w w'∧∃ ue ur,e=.returned (.tuple #[.agg #[ue,ur],.int .i64 (Fd.z3t s ii read).2])∧ShV w' (fun b=>w.heap.size≤b∧b < w'.heap.size) ue ur (Fd.z3t s ii read).1:=by
 have hlt:=hg.lt;have hr:=(Fd.z01 s).1 hs;obtain⟨aoe,cape,rfl,_⟩:=id hv.1;obtain⟨aor,capr,rfl,_⟩:=id hv.2;have HG:=Ld hg;have HK:=Ld hK;have HV:=Ld hv;have HR:=Ld hr;have hes:s.es.length≤20:=hr.1;have hrd:s.rd.length≤40:=hr.2.1;have AL1:=(Below.refl w.heap.size w).alloc (Lr) (.cells #[.slice aoe s.es.length cape,.slice aor s.rd.length capr] 26);have AL2:=AL1.alloc AL1.size (.cells #[.slice none 0 0,.slice none 0 0] 26);have XB:=Ld (Blk.alloc (Blk.new w 26 #[.slice aoe s.es.length cape,.slice aor s.rd.length capr]) (.cells #[.slice none 0 0,.slice none 0 0] 26));have RB:Hid (Blk ((w.alloc (.cells #[.slice aoe s.es.length cape,.slice aor s.rd.length capr] 26)).alloc (.cells #[.slice none 0 0,.slice none 0 0] 26)) (w.heap.size + 1) 26 #[.slice none 0 0,.slice none 0 0]):=by
  have:=Blk.new (w.alloc (.cells #[.slice aoe s.es.length cape,.slice aor s.rd.length capr] 26)) 26 #[.slice none 0 0,.slice none 0 0];simp only [World.size_alloc] at this;exact this
 have B1:=Ld AL2;clear AL1 AL2 hg hv hK hr hs;go_enter func41,ntmps41;go_upto_region 1 with fail;obtain⟨X,hX⟩:∃ X,X=w.heap.size:=⟨_,rfl⟩;rw[← hX] at XB RB;rw[← hX];have hXw:w.heap.size≤X:=by omega
 generalize (w.alloc (.cells #[.slice aoe s.es.length cape,.slice aor s.rd.length capr] 26)).alloc (.cells #[.slice none 0 0,.slice none 0 0] 26)=w1 at B1 XB RB ⊢;clear hX;have x0:w1.cell? ⟨X,0,none⟩=some (.slice aoe s.es.length cape):=Blk.cell XB.out 0;have x1:w1.cell? ⟨X,1,none⟩=some (.slice aor s.rd.length capr):=Blk.cell XB.out 1;have HCK:=z4h s _ _ K w1 (HG.out.below B1.out hlt) (HV.out.1.below HK.out B1.out) (HV.out.2.below HK.out B1.out) (fun b q=>Nat.lt_of_lt_of_le (HK.out b q) B1.out.size) (fun x hx=>by have:=(Fd.q21 (HR.out.2.2.1.1 x hx)).2;omega);rw[(Fd.z01 s).2 HR.out] at HCK;have HCK:=Ld HCK;go_wp2_with fail;refine HCK.out.mono ?_;rintro e w3 ⟨rfl,hb2⟩;have B3:=Ld (B1.out.trans (hb2.mono B1.out.size));have X3:=Ld (Blk.call XB.out hb2);have R3:=Ld (Blk.call RB.out hb2);clear hb2 HCK x0 x1 B1 XB RB;have x0:w3.cell? ⟨X,0,none⟩=some (.slice aoe s.es.length cape):=Blk.cell X3.out 0;have x1:w3.cell? ⟨X,1,none⟩=some (.slice aor s.rd.length capr):=Blk.cell X3.out 1;have HOW:=Ld (j06 s.es s.rd _ _ K w3 (HV.out.1.below HK.out B3.out) (HV.out.2.below HK.out B3.out) (fun b q=>Nat.lt_of_lt_of_le (HK.out b q) B3.out.size) (by omega) (by omega));go_wp2_with fail;refine HOW.out.mono ?_;rintro e w4 ⟨M,ue,ur,rfl,hk4⟩;have K4:=Ld hk4;clear hk4 HOW x0 x1;obtain⟨ao4,cap4,hu4⟩:=Z9 K4.out.oe;subst hu4;obtain⟨aou,capu,hur⟩:=Z9 K4.out.or;subst hur;have HMK:Hid (Fd.z3t s ii read=if (s.es.any fun x=>x.id == ii)=false then (Fd.Sh.none,5) else if read=true then (if ii ∈ s.rd then (s,0) else if s.rd.length=40 then (Fd.Sh.none,2) else (⟨s.es,Fd.insB s.rd ii⟩,0)) else (⟨s.es,s.rd.filter fun x=>x != ii⟩,0)):=rfl;have HPL:=Ld (q9r K4.out ii (by omega));go_wp2_with fail;refine HPL.out.mono ?_;rintro e w5 ⟨hb5,i,rfl,hi⟩;have K5:=Ld (K4.out.below hb5);have B5:=Ld (B3.out.trans (K5.out.be.mono B3.out.size));have R9:=Ld (Blk.below R3.out K5.out.be R3.out.lt);clear hb5 HPL K4
 rcases hi with ⟨rfl,hno⟩ | ⟨j,hj,rfl,hid,hah⟩
 ·have HM:Hid (Fd.z3t s ii read=(Fd.Sh.none,5)):=by
   show _=_;rw[HMK.out,if_pos];rw[List.any_eq_false];intro x hx q;rw[hno x hx] at q;cases q
  clear HMK hno K5;have r0:w5.cell? ⟨X + 1,0,none⟩=some (.slice none 0 0):=Blk.cell R9.out 0;have r1:w5.cell? ⟨X + 1,1,none⟩=some (.slice none 0 0):=Blk.cell R9.out 1;have f0:=Blk.frozen R9.out 0;have f1:=Blk.frozen R9.out 1;go_wp2_with fail;refine bodyPost_ret (v:=.tuple #[.agg #[.slice none 0 0,.slice none 0 0],.int .i64 5]) (by simp[results,results41,go_sem, *]) rfl ?_;refine⟨(B5.out.setCell (p:=⟨X + 1,0,none⟩) (by show _≤X + 1;omega) _).setCell (p:=⟨X + 1,1,none⟩) (by show _≤X + 1;omega) _,_,_,by rw[HM.out],?_⟩;rw[HM.out];exact ShV.emp _ _
 have HM1:Hid (Fd.z3t s ii read=if read=true then (if ii ∈ s.rd then (s,0) else if s.rd.length=40 then (Fd.Sh.none,2) else (⟨s.es,Fd.insB s.rd ii⟩,0)) else (⟨s.es,s.rd.filter fun x=>x != ii⟩,0)):=by
  show _=_;rw[HMK.out,if_neg];intro q;rw[List.any_eq_false] at q;exact q _ (List.getElem_mem hj) hid
 clear HMK hid hah;have m1:w5.cell? ⟨M,1,none⟩=some (.slice aou s.rd.length capu):=Blk.cell K5.out.mb 1;have HSS:=Ld (q3i s.rd ii HR.out.2.2.2.2 (by omega) _ _ w5 K5.out.strs);have hji:¬ (j:Int) < 0:=by omega
 go_wp2_with fail;refine HSS.out.mono ?_;rintro e wx ⟨hwx,k,rfl,hk,h1,h2⟩;subst wx;have HLO:=Ld h1;have HHI:=Ld h2;have HMS:=Ld (Fd.q6f s.rd ii k hk HR.out.2.2.2.2 h1 h2);obtain⟨bm,hbm⟩:∃ bm,decide (ii ∈ s.rd)=bm:=⟨_,rfl⟩;rw[hbm];have HBM:=Ld hbm;clear hbm h1 h2 HSS hji
 cases read with
 | true =>
  have HM2:Hid (Fd.z3t s ii true=if ii ∈ s.rd then (s,0) else if s.rd.length=40 then (Fd.Sh.none,2) else (⟨s.es,Fd.insB s.rd ii⟩,0)):=by show _=_;rw[HM1.out,if_pos rfl]
  cases bm with
  | true =>
   have HM:Hid (Fd.z3t s ii true=(⟨s.es,s.rd⟩,0)):=by show _=_;rw[HM2.out,if_pos (of_decide_eq_true HBM.out)]
   clear HM1 HM2 m1;have B6:=Ld (B3.out.trans (K5.out.be.mono B3.out.size));have R6:=Ld (Blk.below R3.out K5.out.be R3.out.lt);have SV:=Ld (K5.out.shv R3.out.lt B3.out);have m0:w5.cell? ⟨M,0,none⟩=some (.slice ao4 s.es.length cap4):=Blk.cell K5.out.mb 0;have m1:w5.cell? ⟨M,1,none⟩=some (.slice aou s.rd.length capu):=Blk.cell K5.out.mb 1;have r0:w5.cell? ⟨X + 1,0,none⟩=some (.slice none 0 0):=Blk.cell R6.out 0;have r1:w5.cell? ⟨X + 1,1,none⟩=some (.slice none 0 0):=Blk.cell R6.out 1;have f0:=Blk.frozen R6.out 0;have f1:=Blk.frozen R6.out 1;clear K5;go_wp2_with fail;refine bodyPost_ret (v:=.tuple #[.agg #[.slice ao4 s.es.length cap4,.slice aou s.rd.length capu],.int .i64 0]) (by simp[results,results41,go_sem, *]) rfl ?_;refine⟨(B6.out.setCell (p:=⟨X + 1,0,none⟩) (by show _≤X + 1;omega) _).setCell (p:=⟨X + 1,1,none⟩) (by show _≤X + 1;omega) _,_,_,by rw[HM.out],?_⟩;rw[HM.out];exact SV.out.stored
  | false =>
   have HM3:Hid (Fd.z3t s ii true=if s.rd.length=40 then (Fd.Sh.none,2) else (⟨s.es,Fd.insB s.rd ii⟩,0)):=by show _=_;rw[HM2.out,if_neg (of_decide_eq_false HBM.out)]
   clear HM1 HM2
   by_cases h40:s.rd.length=40
   ·have HM:Hid (Fd.z3t s ii true=(Fd.Sh.none,2)):=by show _=_;rw[HM3.out,if_pos h40]
    have h40b:((s.rd.length:Int) == 40)=true:=by rw[h40];rfl
    clear HM3 h40 K5;have r0:w5.cell? ⟨X + 1,0,none⟩=some (.slice none 0 0):=Blk.cell R9.out 0;have r1:w5.cell? ⟨X + 1,1,none⟩=some (.slice none 0 0):=Blk.cell R9.out 1;have f0:=Blk.frozen R9.out 0;have f1:=Blk.frozen R9.out 1;go_wp2_with fail;refine bodyPost_ret (v:=.tuple #[.agg #[.slice none 0 0,.slice none 0 0],.int .i64 2]) (by simp[results,results41,go_sem, *]) rfl ?_;refine⟨(B5.out.setCell (p:=⟨X + 1,0,none⟩) (by show _≤X + 1;omega) _).setCell (p:=⟨X + 1,1,none⟩) (by show _≤X + 1;omega) _,_,_,by rw[HM.out],?_⟩;rw[HM.out];exact ShV.emp _ _
   ·have HM:Hid (Fd.z3t s ii true=(⟨s.es,s.rd.take k++ii :: s.rd.drop k⟩,0)):=by
     show _=_;rw[HM3.out,if_neg h40];have:=Fd.j1z (s.rd.take k) (s.rd.drop k) ii HLO.out HHI.out;rw[List.take_append_drop] at this;rw[this]
    have h40b:((s.rd.length:Int) == 40)=false:=beq_eq_false_iff_ne.2 (by omega);have HIN:Hid (Calls prog 88 #[.slice aou s.rd.length capu,.int .i64 k,.slice (some ⟨w5.heap.size,0,none⟩) 1 1] (w5.alloc (.cells #[.string (st ii)] 9)) fun e w'=>∃ v',e=.returned v'∧(∃ ao2 n2 cap2,v'=.slice ao2 n2 cap2∧n2=(s.rd.take k++ii :: s.rd.drop k).length)∧w'.cell? ⟨M,1,none⟩=some (.slice aou s.rd.length capu)∧w'.frozen? ⟨M,1,none⟩=false∧KpI w3 (w'.setCell ⟨M,1,none⟩ v') M (.slice ao4 s.es.length cap4) v' s.es (s.rd.take k++ii :: s.rd.drop k)):=by
     have KW:=K5.out.below ((Below.refl w5.heap.size w5).alloc (Lr) (.cells #[.string (st ii)] 9));have hbe:=KW.be.size;refine Calls.mono (j3d s.rd k ii hk (by omega) _ w5.heap.size _ _ KW.or (Blk.new w5 _ _) (fun e=>by have:=(K5.out.or.lt _ e).2;omega) hbe) ?_;rintro e w' ⟨v',rfl,ho,hap,hbl⟩;have hmb:Blk w' M 137 #[.slice ao4 s.es.length cap4,.slice aou s.rd.length capu]:=(hap.block M KW.mb.lt (fun e=>KW.nr e)).trans KW.mb;obtain⟨ao2,cap2,hv2⟩:=Z9 ho;refine⟨v',rfl,⟨_,_,_,hv2,rfl⟩,Blk.cell hmb 1,Blk.frozen hmb 1,KW.setR hap ho (fun g' q=>?_)⟩
     rcases hbl with e | e
     ·exact .inl (by rw[← e];exact q)
     ·rw[e] at q
      injection q with q;have:(w5.alloc (.cells #[.string (st ii)] 9)).heap.size=w5.heap.size + 1:=by simp
      exact .inr (by omega)
    have ma:(w5.alloc (.cells #[.string (st ii)] 9)).cell? ⟨M,1,none⟩=some (.slice aou s.rd.length capu):=Blk.cell (K5.out.below ((Below.refl w5.heap.size w5).alloc (Lr) (.cells #[.string (st ii)] 9))).mb 1;clear HM3 h40 K5 R9 B5;go_wp2_with fail;refine HIN.out.mono ?_;rintro e w7 ⟨v7,rfl,⟨ao2,n2,cap2,rfl,hn2⟩,m7,f7,k7⟩;have K7:=Ld k7;have HN2:=Ld hn2;clear k7 HIN ma m1 hn2;go_upto_region 14 with fail;generalize w7.setCell ⟨M,1,none⟩ (.slice ao2 n2 cap2)=w8 at K7 ⊢;clear m7 f7;have B6:=Ld (B3.out.trans (K7.out.be.mono B3.out.size));have R6:=Ld (Blk.below R3.out K7.out.be R3.out.lt);have SV:=Ld (K7.out.shv R3.out.lt B3.out);have m0:w8.cell? ⟨M,0,none⟩=some (.slice ao4 s.es.length cap4):=Blk.cell K7.out.mb 0;have m1:w8.cell? ⟨M,1,none⟩=some (.slice ao2 n2 cap2):=Blk.cell K7.out.mb 1;have r0:w8.cell? ⟨X + 1,0,none⟩=some (.slice none 0 0):=Blk.cell R6.out 0;have r1:w8.cell? ⟨X + 1,1,none⟩=some (.slice none 0 0):=Blk.cell R6.out 1;have f0:=Blk.frozen R6.out 0;have f1:=Blk.frozen R6.out 1;clear K7;go_wp2_with fail;refine bodyPost_ret (v:=.tuple #[.agg #[.slice ao4 s.es.length cap4,.slice ao2 n2 cap2],.int .i64 0]) (by simp[results,results41,go_sem, *]) rfl ?_;refine⟨(B6.out.setCell (p:=⟨X + 1,0,none⟩) (by show _≤X + 1;omega) _).setCell (p:=⟨X + 1,1,none⟩) (by show _≤X + 1;omega) _,_,_,by rw[HM.out],?_⟩;rw[HM.out];exact SV.out.stored
 | false =>
  have HM2:Hid (Fd.z3t s ii false=(⟨s.es,s.rd.filter fun x=>x != ii⟩,0)):=by show _=_;rw[HM1.out,if_neg (by decide)]
  cases bm with
  | false =>
   have HM:Hid (Fd.z3t s ii false=(⟨s.es,s.rd⟩,0)):=by show _=_;rw[HM2.out,Fd.j5t s.rd ii (of_decide_eq_false HBM.out)]
   clear HM1 HM2 m1;have B6:=Ld (B3.out.trans (K5.out.be.mono B3.out.size));have R6:=Ld (Blk.below R3.out K5.out.be R3.out.lt);have SV:=Ld (K5.out.shv R3.out.lt B3.out);have m0:w5.cell? ⟨M,0,none⟩=some (.slice ao4 s.es.length cap4):=Blk.cell K5.out.mb 0;have m1:w5.cell? ⟨M,1,none⟩=some (.slice aou s.rd.length capu):=Blk.cell K5.out.mb 1;have r0:w5.cell? ⟨X + 1,0,none⟩=some (.slice none 0 0):=Blk.cell R6.out 0;have r1:w5.cell? ⟨X + 1,1,none⟩=some (.slice none 0 0):=Blk.cell R6.out 1;have f0:=Blk.frozen R6.out 0;have f1:=Blk.frozen R6.out 1;clear K5;go_wp2_with fail;refine bodyPost_ret (v:=.tuple #[.agg #[.slice ao4 s.es.length cap4,.slice aou s.rd.length capu],.int .i64 0]) (by simp[results,results41,go_sem, *]) rfl ?_;refine⟨(B6.out.setCell (p:=⟨X + 1,0,none⟩) (by show _≤X + 1;omega) _).setCell (p:=⟨X + 1,1,none⟩) (by show _≤X + 1;omega) _,_,_,by rw[HM.out],?_⟩;rw[HM.out];exact SV.out.stored
  | true =>
   obtain⟨hkl,hke⟩:=HMS.out.1 (of_decide_eq_true HBM.out);have HM:Hid (Fd.z3t s ii false=(⟨s.es,s.rd.take k++s.rd.drop (k + 1)⟩,0)):=by
    show _=_;rw[HM2.out];have:=Fd.j5s s.rd k hkl HR.out.2.2.2.2;rw[hke] at this;rw[this]
   have HDE:Hid (Calls prog 89 #[.slice aou s.rd.length capu,.int .i64 k,.int .i64 ((k:Int) + 1)] w5 fun e w'=>∃ v',e=.returned v'∧(∃ ao2 n2 cap2,v'=.slice ao2 n2 cap2∧n2=(s.rd.take k++s.rd.drop (k + 1)).length)∧w'.cell? ⟨M,1,none⟩=some (.slice aou s.rd.length capu)∧w'.frozen? ⟨M,1,none⟩=false∧KpI w3 (w'.setCell ⟨M,1,none⟩ v') M (.slice ao4 s.es.length cap4) v' s.es (s.rd.take k++s.rd.drop (k + 1))):=by
    refine Calls.mono (j3b s.rd k (k + 1) (by omega) (by omega) (by omega) _ _ w5 K5.out.or) ?_;rintro e w' ⟨v',rfl,ho,hap,hbl⟩;have hmb:Blk w' M 137 #[.slice ao4 s.es.length cap4,.slice aou s.rd.length capu]:=(hap.block M K5.out.mb.lt (fun e=>K5.out.nr e)).trans K5.out.mb;obtain⟨ao2,cap2,hv2⟩:=Z9 ho;exact⟨v',rfl,⟨_,_,_,hv2,rfl⟩,Blk.cell hmb 1,Blk.frozen hmb 1,K5.out.setR hap ho (fun g' q=>.inl (by rw[← hbl];exact q))⟩
   have hw1:IntKind.i64.wrap ((k:Int) + 1)=(k:Int) + 1:=by rw[IntKind.wrap_i64];omega
   clear HM1 HM2 K5 R9 B5 hke;go_wp2_with fail;refine HDE.out.mono ?_;rintro e w7 ⟨v7,rfl,⟨ao2,n2,cap2,rfl,hn2⟩,m7,f7,k7⟩;have K7:=Ld k7;have HN2:=Ld hn2;clear k7 HDE m1 hn2;go_upto_region 14 with fail;generalize w7.setCell ⟨M,1,none⟩ (.slice ao2 n2 cap2)=w8 at K7 ⊢;clear m7 f7;have B6:=Ld (B3.out.trans (K7.out.be.mono B3.out.size));have R6:=Ld (Blk.below R3.out K7.out.be R3.out.lt);have SV:=Ld (K7.out.shv R3.out.lt B3.out);have m0:w8.cell? ⟨M,0,none⟩=some (.slice ao4 s.es.length cap4):=Blk.cell K7.out.mb 0;have m1:w8.cell? ⟨M,1,none⟩=some (.slice ao2 n2 cap2):=Blk.cell K7.out.mb 1;have r0:w8.cell? ⟨X + 1,0,none⟩=some (.slice none 0 0):=Blk.cell R6.out 0;have r1:w8.cell? ⟨X + 1,1,none⟩=some (.slice none 0 0):=Blk.cell R6.out 1;have f0:=Blk.frozen R6.out 0;have f1:=Blk.frozen R6.out 1;clear K7;go_wp2_with fail;refine bodyPost_ret (v:=.tuple #[.agg #[.slice ao4 s.es.length cap4,.slice ao2 n2 cap2],.int .i64 0]) (by simp[results,results41,go_sem, *]) rfl ?_;refine⟨(B6.out.setCell (p:=⟨X + 1,0,none⟩) (by show _≤X + 1;omega) _).setCell (p:=⟨X + 1,1,none⟩) (by show _≤X + 1;omega) _,_,_,by rw[HM.out],?_⟩;rw[HM.out];exact SV.out.stored
end Go.Proofs.YtjonkbdldebkiaaGreatDoor
namespace Fd
inductive Rs (α:Type) where
 | ok:α→Bs→Rs α
 | er:Int→Rs α
def z2s (c:UInt8):Bool:=c == 9 || c == 10 || c == 13 || c == 32
def V8 (s:Bs):Bs:=s.dropWhile z2s
def z2d (first:Bool) (c:UInt8):Bool:=(97≤c && c≤122) || (65≤c && c≤90) || c == 95 || (!first && ((48≤c && c≤57) || c == 45 || c == 46 || c == 58))
def z3g:Bool→Bs→Bool
 | _,[]=>true
 | f,c :: t=>z2d f c && z3g false t
def z0b (s:Bs):Bool:=z3g true s && decide (s ≠ []) && decide (s.length≤20)
def z5v:Bool→Bs→Bs
 | _,[]=>[]
 | f,c :: t=>if z2d f c then c :: z5v false t else []
def z06 (s:Bs):Rs Bs:=if z0b (z5v true s) then .ok (z5v true s) (s.drop (z5v true s).length) else .er 1
def z0k (p s:Bs):Rs Unit:=if Mg.pre p s then .ok () (s.drop p.length) else .er 1
def z0c (p:Bs):Bs→Option (Bs × Bs)
 | []=>none
 | c :: t=>if Mg.pre p (c :: t) then some ([],(c :: t).drop p.length) else (z0c p t).map fun x=>(c :: x.1,x.2)
def toX (p s:Bs):Rs Bs:=match z0c p s with | none=>.er 1 | some x=>.ok x.1 x.2
def z1c (s:Bs):Option (Rs Unit) :=
 if Mg.pre [60,33,45,45] s then some (match z0c [45,45,62] (s.drop 4) with | none=>.er 1 | some x=>.ok () x.2)
 else if Mg.pre [60,63] s then some (match z0c [63,62] (s.drop 2) with | none=>.er 1 | some x=>.ok () x.2)
 else none
def z6b:Nat→Bs→Rs Unit
 | 0,s=>.ok () s
 | n + 1,s =>
  if (V8 s).length < s.length then z6b n (V8 s)
  else match z1c s with
   | none=>.ok () s
   | some (.er e)=>.er e
   | some (.ok _ r)=>z6b n r
def z3u (s:Bs):Rs Unit:=z6b (s.length + 1) s
def z3a (s:Bs):Rs Bs :=
 let q:UInt8:=if Mg.pre [39] s then 39 else 34
 match z0k [q] s with
 | .er e=>.er e
 | .ok _ r =>
  match toX [q] r with
  | .er e=>.er e
  | .ok v u=>if v.contains 60 then .er 1 else if (Mk.take v).2 then .ok (Mk.take v).1 u else .er 1
def z4k (s:Bs):Rs Mk.At :=
 match z06 s with
 | .er e=>.er e
 | .ok nm r =>
  match z0k [61] (V8 r) with
  | .er e=>.er e
  | .ok _ u =>
   match z3a (V8 u) with
   | .er e=>.er e
   | .ok v z=>.ok ⟨nm,v⟩ z
def z0o:Nat→Bs→List Mk.At→Rs (List Mk.At)
 | 0,s,out=>.ok out s
 | n + 1,s,out =>
  if (V8 s).length < s.length then
   match V8 s with
   | []=>.ok out []
   | c :: t =>
    if z2d true c then
     match z4k (c :: t) with
     | .er e=>.er e
     | .ok a r=>if Mk.z14 z0b [] (out++[a]) ≠ 0 then .er 6 else z0o n r (out++[a])
    else .ok out (c :: t)
  else .ok out s
def z2f (s:Bs):Rs (List Mk.At):=z0o (s.length + 1) s []
def z9i (f:Mk.Fo) (t:Bs):Mk.Fo:=if t=[] then f else Mk.Fo.snoc [] [] t .nil f
structure El where
 name:Bs
 ats:List Mk.At
 kids:Mk.Fo
mutual
def z3y:Nat→Int→Bs→Rs El
 | 0,_,_=>.er 1
 | n + 1,deep,s =>
  match z0k [60] s with
  | .er e=>.er e
  | .ok _ r =>
   match z06 r with
   | .er e=>.er e
   | .ok nm u =>
    if 8 < deep then .er 2
    else match z2f u with
     | .er e=>.er e
     | .ok l z =>
      if Mg.pre [47,62] z then .ok ⟨nm,l,.nil⟩ (z.drop 2)
      else match z0k [62] z with
       | .er e=>.er e
       | .ok _ y =>
        match z1l n deep y .nil with
        | .er e=>.er e
        | .ok k x =>
         match z06 x with
         | .er e=>.er e
         | .ok nm2 v=>if nm2 ≠ nm then .er 4 else
          match z0k [62] (V8 v) with
          | .er e=>.er e
          | .ok _ o=>.ok ⟨nm,l,k⟩ o
def z1l:Nat→Int→Bs→Mk.Fo→Rs Mk.Fo
 | 0,_,_,_=>.er 1
 | n + 1,deep,s,out =>
  if Mg.pre [60,47] s then .ok out (s.drop 2)
  else if Mg.pre [60,33,91,67,68,65,84,65,91] s then
   match toX [93,93,62] (s.drop 9) with
   | .er e=>.er e
   | .ok t r=>z1l n deep r (z9i out t)
  else match z1c s with
   | some (.er e)=>.er e
   | some (.ok _ r)=>z1l n deep r out
   | none =>
    if Mg.pre [60] s then
     match z3y n (deep + 1) s with
     | .er e=>.er e
     | .ok x r=>z1l n deep r (out.app (.node x.name x.ats [] x.kids .nil))
    else match z0c [60] s with
     | none=>.er 1
     | some (t,_)=>if (Mk.take t).2 then z1l n deep (s.drop t.length) (z9i out (Mk.take t).1) else .er 1
end
def xmlR (s:Bs):El × Int :=
 match z3u s with
 | .er e=>(⟨[],[],.nil⟩,e)
 | .ok _ r =>
  match z3y (r.length + 1) 1 r with
  | .er e=>(⟨[],[],.nil⟩,e)
  | .ok x u =>
   match z3u u with
   | .er e=>(⟨[],[],.nil⟩,e)
   | .ok _ v=>if v=[] then (x,0) else (⟨[],[],.nil⟩,1)
def xmlB:Mk.Fo→Bs
 | .nil=>[]
 | .node n a t k r=>(if n=[] then Mk.put t else [60]++n++Mk.written a++(if k=.nil then [47,62] else [62]++xmlB k++[60,47]++n++[62]))++xmlB r
example:(xmlR [60,97,62,120,60,98,47,62,60,47,97,62]).2=0:=by decide +kernel
example:xmlB (.node [97] [] [] (.node [] [] [120] .nil (.node [98] [] [] .nil .nil)) .nil)=[60,97,62,120,60,98,47,62,60,47,97,62]:=by decide +kernel
structure Dr where
 s:Bs
 short:Bool
def Q9 (of:Bs) (r:Dr):UInt8 × Dr :=
 match r.s with
 | []=>(0,⟨[],true⟩)
 | c :: t=>if of.contains c then (c,⟨t,r.short⟩) else (0,⟨[],true⟩)
def tenD:Bs:=[48,49,50,51,52,53,54,55,56,57]
def digD:Nat→Int→Dr→Int × Dr
 | 0,n,r=>(n,r)
 | k + 1,n,r=>digD k (10 * n + max 0 ((((Q9 tenD r).1.toNat:Nat):Int) - 48)) (Q9 tenD r).2
def Y0 (many:Nat) (most:Int) (r:Dr):Int × Dr :=
 let x:=digD many 0 r
 (x.1,⟨x.2.s,x.2.short || decide (most < x.1)⟩)
def z4d (r:Dr):Int × Dr :=
 let h:=Y0 2 23 r
 let m:=Y0 2 59 (Q9 [58] h.2).2
 let z:=Y0 2 59 (Q9 [58] m.2).2
 (3600 * h.1 + 60 * m.1 + z.1,z.2)
def z2u (between:Bs) (r:Dr):Int × Dr :=
 let g:=Q9 [43,45] r
 let h:=Y0 2 23 g.2
 let m:=Y0 2 59 (if between=[] then h.2 else (Q9 between h.2).2)
 ((if g.1=45 then -1 else 1) * (3600 * h.1 + 60 * m.1),m.2)
def q8r:Nat→Int→Int→Int
 | 0,_,n=>n
 | k + 1,y,n=>q8r k y n + long y (k + 1)
def z95 (y m d:Int):Int:=q8r (m - 1).toNat y (ahead y - ahead 1970 + d - 1)
def z7j (y m d clock zone:Int) (r:Dr):Int × Int :=
 if r.short=true∨r.s ≠ [] then (0,1)
 else if m < 1∨12 < m∨d < 1∨long y m < d then (0,3)
 else if 86400 * z95 y m d + clock - zone < 0∨4102444799 < 86400 * z95 y m d + clock - zone then (0,3)
 else (86400 * z95 y m d + clock - zone,0)
def webD (s:Bs):Int × Int :=
 let y:=Y0 4 9999 ⟨s,false⟩
 let m:=Y0 2 99 (Q9 [45] y.2).2
 let d:=Y0 2 99 (Q9 [45] m.2).2
 let c:=z4d (Q9 [84] d.2).2
 if c.2.s=[90] then z7j y.1 m.1 d.1 c.1 0 ⟨[],c.2.short⟩
 else z7j y.1 m.1 d.1 c.1 (z2u [58] c.2).1 (z2u [58] c.2).2
def z2i (c:UInt8):Bool:=(97≤c && c≤122) || (65≤c && c≤90)
def z1w (r:Dr):Bs × Dr:=if 3≤r.s.length∧(r.s.take 3).all z2i=true then (r.s.take 3,⟨r.s.drop 3,r.short⟩) else ([],⟨[],true⟩)
def z0d:List Bs:=[[74,97,110],[70,101,98],[77,97,114],[65,112,114],[77,97,121],[74,117,110],[74,117,108],[65,117,103],[83,101,112],[79,99,116],[78,111,118],[68,101,99]]
def z4v (r:Dr):Int × Dr :=
 let x:=z1w r
 match z0d.idxOf? x.1 with
 | none=>(0,⟨x.2.s,true⟩)
 | some k=>((k:Int) + 1,x.2)
def q6e (s:Bs):Int × Int :=
 let r0:Dr:=⟨s,false⟩
 let r:=match s with
  | []=>r0
  | c :: _=>if z2i c then (Q9 [32] (Q9 [44] (z1w r0).2).2).2 else r0
 let many:=match r.s with
  | _ :: c :: _=>if c=32 then 1 else 2
  | _=>1
 let d:=Y0 many 99 r
 let m:=z4v (Q9 [32] d.2).2
 let y:=Y0 4 9999 (Q9 [32] m.2).2
 let c:=z4d (Q9 [32] y.2).2
 let z:=(Q9 [32] c.2).2
 if z.s=[71,77,84]∨z.s=[85,84] then z7j y.1 m.1 d.1 c.1 0 ⟨[],z.short⟩
 else z7j y.1 m.1 d.1 c.1 (z2u [] z).1 (z2u [] z).2
def z16:Mk.Fo→Bs
 | .nil=>[]
 | .node _ _ t k r=>t++z16 k++z16 r
def q7a (s:Bs):Bs:=((V8 s).reverse.dropWhile z2s).reverse
structure Nd where
 name:Bs
 ats:List Mk.At
 text:Bs
 kids:Mk.Fo
def Nd.none:Nd:=⟨[],[],[],.nil⟩
def z2z (title:Bs) (p:Nd→Bool):Mk.Fo→Option Nd
 | .nil=>Option.none
 | .node n a t k r=>if n=title && p ⟨n,a,t,k⟩ then some ⟨n,a,t,k⟩ else z2z title p r
def q14 (title:Bs) (f:Mk.Fo):Option Nd:=z2z title (fun _=>true) f
def X9 (f:Mk.Fo) (title:Bs):Bs:=let x:=(q14 title f).getD Nd.none;q7a (x.text++z16 x.kids)
def valueA (l:List Mk.At) (n:Bs):Option Bs:=(l.find? fun a=>a.n == n).map fun a=>a.v
def q38 (base v:Bs):Bs:=if Mg.isSafe (Mk.light base v) then Mk.light base v else []
def asM (base:Bs) (x:En):En:=⟨if x.id=[] then q38 base x.li else x.id,x.ti,q38 base x.li,x.at_,Mk.html base x.ht⟩
def putM (base:Bs) (out:List En) (x:En):List En :=
 if 3000 < base.length∨3000 < x.ht.length∨out.length=12∨z03 (asM base x) ≠ 0∨(out.any fun z=>z.id == (asM base x).id)=true then out else out++[asM base x]
def j3j:Bs:=[103,117,105,100]
def z5z:Bs:=[116,105,116,108,101]
def z8t:Bs:=[108,105,110,107]
def tPub:Bs:=[112,117,98,68,97,116,101]
def j3i:Bs:=[100,101,115,99,114,105,112,116,105,111,110]
def tId:Bs:=[105,100]
def tUpd:Bs:=[117,112,100,97,116,101,100]
def tRel:Bs:=[114,101,108]
def tAlt:Bs:=[97,108,116,101,114,110,97,116,101]
def j7l:Bs:=[104,114,101,102]
def tSum:Bs:=[115,117,109,109,97,114,121]
def q5c:Bs:=[99,111,110,116,101,110,116]
def q4n (k:Mk.Fo):En:=⟨X9 k j3j,X9 k z5z,X9 k z8t,(q6e (X9 k tPub)).1,X9 k j3i⟩
def z7q (x:Nd):Bool:=match valueA x.ats tRel with | Option.none=>true | some v=>v == tAlt
def z9r (k:Mk.Fo):En :=
 ⟨X9 k tId,X9 k z5z,(valueA ((z2z z8t z7q k).getD Nd.none).ats j7l).getD [],(webD (X9 k tUpd)).1,X9 k (if (q14 q5c k).isSome then q5c else tSum)⟩
def z7h (base title:Bs) (E:Mk.Fo→En):Mk.Fo→List En→List En
 | .nil,out=>out
 | .node n _ _ k r,out=>z7h base title E r (if n=title then putM base out (E k) else out)
def tRss:Bs:=[114,115,115]
def q03:Bs:=[99,104,97,110,110,101,108]
def j7m:Bs:=[105,116,101,109]
def tFeed:Bs:=[102,101,101,100]
def j08:Bs:=[101,110,116,114,121]
def xmlM (s:Bs):El × Int:=if 3000 < s.length then (⟨[],[],.nil⟩,2) else xmlR s
def X0 (base s:Bs):List En × Int :=
 if 3000 < base.length then ([],2)
 else if (xmlM s).2 ≠ 0 then ([],(xmlM s).2)
 else if (xmlM s).1.name=tRss then
  match q14 q03 (xmlM s).1.kids with
  | Option.none=>([],5)
  | some c=>(z7h base j7m q4n c.kids [],0)
 else if (xmlM s).1.name=tFeed then (z7h base j08 z9r (xmlM s).1.kids [],0)
 else ([],7)
def OkM (l:List En):Prop:=(∀ x ∈ l,z03 x=0)∧l.Pairwise (fun a b=>a.id ≠ b.id)∧l.length≤12
theorem ok_putM (base:Bs) (l:List En) (x:En) (h:OkM l):OkM (putM base l x):=by
 unfold putM;generalize asM base x=y
 by_cases hc:3000 < base.length∨3000 < x.ht.length∨l.length=12∨z03 y ≠ 0∨(l.any fun z=>z.id == y.id)=true
 ·rw[if_pos hc];exact h
 rw[if_neg hc];obtain⟨ha,hp,hl⟩:=h;refine⟨?_,?_,?_⟩
 ·intro z hz
  rcases List.mem_append.1 hz with hz | hz
  ·exact ha z hz
  ·rw[List.mem_singleton.1 hz];apply Classical.byContradiction;intro hn;exact hc (.inr (.inr (.inr (.inl hn))))
 ·rw[List.pairwise_append]
  refine⟨hp,List.pairwise_singleton _ _,?_⟩;intro a ha' b hb e;rw[List.mem_singleton.1 hb] at e;refine hc (.inr (.inr (.inr (.inr ?_))));rw[List.any_eq_true];exact⟨a,ha',by simpa using e⟩
 ·rw[List.length_append,List.length_singleton]
  have:l.length ≠ 12:=fun e=>hc (.inr (.inr (.inl e)))
  omega
theorem q8h (base title:Bs) (E:Mk.Fo→En):∀ (f:Mk.Fo) (l:List En),OkM l→OkM (z7h base title E f l)
 | .nil,l,h=>h
 | .node n a t k r,l,h=>by
  rw[z7h]
  apply q8h base title E r
  split
  ·exact ok_putM base l _ h
  ·exact h
theorem q3c:OkM []:=⟨(fun _ h=>nomatch h),List.Pairwise.nil,Nat.zero_le _⟩
theorem q4t (base s:Bs):OkM (X0 base s).1:=by
 unfold X0
 split
 ·exact q3c
 split
 ·exact q3c
 split
 ·split
  ·exact q3c
  ·exact q8h _ _ _ _ _ q3c
 split
 ·exact q8h _ _ _ _ _ q3c
 ·exact q3c
theorem z98:q2e X0:=fun b s _=>⟨(q4t b s).1,(q4t b s).2.1⟩
example:webD [50,48,48,48,45,48,50,45,50,57,84,49,50,58,51,48,58,48,48,43,48,49,58,51,48]=(951822000,0):=by decide +kernel
example:(webD [49,57,57,57,45,48,50,45,50,57,84,48,48,58,48,48,58,48,48,90]).2=3:=by decide +kernel
end Fd
namespace Fd
open Mk
end Fd
namespace Mk
open Fo
end Mk
namespace Fd
open Mk
end Fd
namespace Fd
def rssB:Bs:=[60,114,115,115,62,60,99,104,97,110,110,101,108,62,60,105,116,101,109,62,60,116,105,116,108,101,62,65,32,38,97,109,112,59,97,109,112,59,32,66,60,47,116,105,116,108,101,62,60,108,105,110,107,62,120,60,47,108,105,110,107,62,60,103,117,105,100,62,49,60,47,103,117,105,100,62,60,112,117,98,68,97,116,101,62,84,104,117,44,32,48,49,32,74,97,110,32,49,57,55,48,32,48,48,58,48,48,58,49,48,32,71,77,84,60,47,112,117,98,68,97,116,101,62,60,100,101,115,99,114,105,112,116,105,111,110,62,38,108,116,59,98,32,111,110,99,108,105,99,107,61,49,62,99,38,108,116,59,47,98,62,60,47,100,101,115,99,114,105,112,116,105,111,110,62,60,47,105,116,101,109,62,60,105,116,101,109,62,60,108,105,110,107,62,121,60,47,108,105,110,107,62,60,47,105,116,101,109,62,60,47,99,104,97,110,110,101,108,62,60,47,114,115,115,62]
def hB:Bs:=[104,116,116,112,58,47,47,104,47]
def doS (F:Bs→Bs→List En × Int) (x:Sh × List Int) (a:Ac):Sh × List Int :=
 (if (stepS F x.1 a).2.2=0 then (stepS F x.1 a).1 else x.1,x.2++[(stepS F x.1 a).2.2])
def runS (F:Bs→Bs→List En × Int) (l:List Ac):Sh × List Int:=l.foldl (doS F) (Sh.none,[])
def z2q (l:List Ac):Int:=if 16 < l.length then 2 else ((l.map z0w).find? (fun e=>e != 0)).getD 0
theorem z3k:z0e Sh.none=0:=by decide +kernel
theorem do_right (F:Bs→Bs→List En × Int) (hF:q2e F) (x:Sh × List Int) (a:Ac) (h:z0e x.1=0):z0e (doS F x a).1=0:=by
 unfold doS
 by_cases he:(stepS F x.1 a).2.2=0
 ·simp only [if_pos he];exact q1i F hF x.1 a he
 ·simp only [if_neg he];exact h
theorem z4x (F:Bs→Bs→List En × Int) (hF:q2e F):∀ (l:List Ac) (x:Sh × List Int),z0e x.1=0→z0e (l.foldl (doS F) x).1=0∧(l.foldl (doS F) x).2.length=x.2.length + l.length
 | [],x,h=>⟨h,rfl⟩
 | a :: l,x,h=>by
  obtain⟨h1,h2⟩:=z4x F hF l (doS F x a) (do_right F hF x a h);refine⟨h1,?_⟩;rw[List.foldl_cons,h2];show (x.2++[_]).length + _=_;rw[List.length_append,List.length_cons,List.length_cons,List.length_nil];omega
theorem q56 (F:Bs→Bs→List En × Int) (l:List Ac) (k:Nat) (h:k < l.length):runS F (l.take (k + 1))=doS F (runS F (l.take k)) l[k]:=by
 unfold runS;rw[← List.take_append_getElem h,List.foldl_append];rfl
def actF:Ac:=⟨1,rssB,hB⟩
def act1:Ac:=⟨2,[49],[]⟩
def actN:Ac:=⟨2,[110,111],[]⟩
def actD:Ac:=⟨4,[],[]⟩
theorem q7v:z2q [actF]=0:=by decide +kernel
theorem z90:(stepS X0 Sh.none actF).2=(2,0)∧(stepS X0 Sh.none actF).1.es.length=2:=by decide +kernel
theorem q0m:(stepS X0 (stepS X0 Sh.none actF).1 act1).2=(1,0)∧(stepS X0 (stepS X0 Sh.none actF).1 act1).1.rd.length=1:=by decide +kernel
theorem j4n:(runS X0 [actF,act1,actN,actD]).1.es.length=1∧(runS X0 [actF,act1,actN,actD]).2=[0,0,5,0]∧z2q [actF,act1,actN,actD]=0:=by decide +kernel
end Fd
namespace Go.Proofs.YtjonkbdldebkiaaGreatDoor
open Go.Proofs.Tryz Go.RowKit
def acV (a:Fd.Ac):Value:=.agg #[.int .i64 a.kind,.string (st a.text),.string (st a.base)]
theorem dk_act (a:Fd.Ac) (w:World) :
  Calls prog 45 #[acV a] w fun e w'=>e=.returned (.int .i64 (Fd.z0w a))∧Below w.heap.size w w':=by
 have hst:∀ l:List UInt8,(st l).toList=l:=fun l=>Lib.toList_data _
 obtain⟨kind,text,base⟩:=a;have HC:Hid (Fd.z0w ⟨kind,text,base⟩=if kind < 1∨4 < kind then 7 else if (kind ≠ 1∧base ≠ [])∨(kind=4∧text ≠ []) then 1 else 0):=rfl;generalize Fd.z0w ⟨kind,text,base⟩=c at HC ⊢;have AL:=Ld ((Below.refl w.heap.size w).alloc (Lr) (.cells #[.int .i64 kind,.string (st text),.string (st base)] 36));have XB:=Blk.new w 36 #[.int .i64 kind,.string (st text),.string (st base)];have p0:(w.alloc (.cells #[.int .i64 kind,.string (st text),.string (st base)] 36)).cell? ⟨w.heap.size,0,none⟩=some (.int .i64 kind):=Blk.cell XB 0;have p1:(w.alloc (.cells #[.int .i64 kind,.string (st text),.string (st base)] 36)).cell? ⟨w.heap.size,1,none⟩=some (.string (st text)):=Blk.cell XB 1;have p2:(w.alloc (.cells #[.int .i64 kind,.string (st text),.string (st base)] 36)).cell? ⟨w.heap.size,2,none⟩=some (.string (st base)):=Blk.cell XB 2;clear XB;unfold acV
 by_cases h1:kind < 1
 ·have HE:Hid (c=7):=by show _=_;rw[HC.out,if_pos (.inl h1)]
  clear HC;go_enter func45,ntmps45;go_wp2_with fail;go_ret;exact⟨V5 HE.out.symm,AL.out⟩
 by_cases h2:4 < kind
 ·have HE:Hid (c=7):=by show _=_;rw[HC.out,if_pos (.inr h2)]
  clear HC;go_enter func45,ntmps45;go_wp2_with fail;go_ret;exact⟨V5 HE.out.symm,AL.out⟩
 have HC2:Hid (c=if (kind ≠ 1∧base ≠ [])∨(kind=4∧text ≠ []) then 1 else 0):=by show _=_;rw[HC.out,if_neg (by omega)]
 clear HC
 rcases z3c base with ⟨b1,b2⟩ | ⟨b1,b2⟩
 ·rcases z3c text with ⟨t1,t2⟩ | ⟨t1,t2⟩
  ·have HE:Hid (c=0):=by show _=_;rw[HC2.out,if_neg (by rintro (q | q);exact q.2 b1;exact q.2 t1)]
   obtain hk | hk | hk | hk:kind=1∨kind=2∨kind=3∨kind=4:=by omega
   all_goals
    subst hk;clear HC2 b1 t1 h1 h2;go_enter func45,ntmps45;go_wp2_with fail;go_ret;exact⟨V5 HE.out.symm,AL.out⟩
  ·obtain hk | hk | hk | hk:kind=1∨kind=2∨kind=3∨kind=4:=by omega
   all_goals
    subst hk;have HE:=HC2.out;simp[b1,t1] at HE;have HE:=Ld HE;clear HC2 b1 t1 h1 h2;go_enter func45,ntmps45;go_wp2_with fail;go_ret;exact⟨V5 HE.out.symm,AL.out⟩
 ·obtain hk | hk | hk | hk:kind=1∨kind=2∨kind=3∨kind=4:=by omega
  all_goals
   subst hk;have HE:=HC2.out;simp[b1] at HE;have HE:=Ld HE;clear HC2 b1 h1 h2;go_enter func45,ntmps45;go_wp2_with fail;go_ret;exact⟨V5 HE.out.symm,AL.out⟩
theorem dk_one0 (aoe aor:Option Addr) (ne ce nr cr:Nat) (w:World) :
  Calls prog 46 #[.agg #[.slice aoe ne ce,.slice aor nr cr],.int .i64 0] w fun e w'=>e=.returned (.tuple #[.agg #[.slice aoe ne ce,.slice aor nr cr],.int .i64 1,.int .i64 0])∧Below w.heap.size w w':=by
 have AL1:=(Below.refl w.heap.size w).alloc (Lr) (.cells #[.slice aoe ne ce,.slice aor nr cr] 26);have B1:=Ld (AL1.alloc AL1.size (.cells #[.slice none 0 0,.slice none 0 0] 26));have XB:=Ld (Blk.alloc (Blk.new w 26 #[.slice aoe ne ce,.slice aor nr cr]) (.cells #[.slice none 0 0,.slice none 0 0] 26));have RB:Hid (Blk ((w.alloc (.cells #[.slice aoe ne ce,.slice aor nr cr] 26)).alloc (.cells #[.slice none 0 0,.slice none 0 0] 26)) (w.heap.size + 1) 26 #[.slice none 0 0,.slice none 0 0]):=by
  have:=Blk.new (w.alloc (.cells #[.slice aoe ne ce,.slice aor nr cr] 26)) 26 #[.slice none 0 0,.slice none 0 0];simp only [World.size_alloc] at this;exact this
 clear AL1;go_enter func46,ntmps46;go_upto_region 1 with fail;obtain⟨X,hX⟩:∃ X,X=w.heap.size:=⟨_,rfl⟩;rw[← hX] at XB RB;rw[← hX];have hXw:w.heap.size≤X:=by omega
 generalize (w.alloc (.cells #[.slice aoe ne ce,.slice aor nr cr] 26)).alloc (.cells #[.slice none 0 0,.slice none 0 0] 26)=w1 at B1 XB RB ⊢;clear hX;have x0:w1.cell? ⟨X,0,none⟩=some (.slice aoe ne ce):=Blk.cell XB.out 0;have x1:w1.cell? ⟨X,1,none⟩=some (.slice aor nr cr):=Blk.cell XB.out 1;have r0:w1.cell? ⟨X + 1,0,none⟩=some (.slice none 0 0):=Blk.cell RB.out 0;have r1:w1.cell? ⟨X + 1,1,none⟩=some (.slice none 0 0):=Blk.cell RB.out 1;have f0:=Blk.frozen RB.out 0;have f1:=Blk.frozen RB.out 1;go_wp2_with fail;refine bodyPost_ret (v:=.tuple #[.agg #[.slice aoe ne ce,.slice aor nr cr],.int .i64 1,.int .i64 0]) (by simp[results,results46,go_sem, *]) rfl ?_;exact⟨rfl,(B1.out.setCell (p:=⟨X + 1,0,none⟩) (by show _≤X + 1;omega) _).setCell (p:=⟨X + 1,1,none⟩) (by show _≤X + 1;omega) _⟩
theorem dk_one1 (aoe aor:Option Addr) (ne ce nr cr:Nat) (c:Int) (hc:c ≠ 0) (w:World) :
  Calls prog 46 #[.agg #[.slice aoe ne ce,.slice aor nr cr],.int .i64 c] w fun e w'=>e=.returned (.tuple #[.agg #[.slice none 0 0,.slice none 0 0],.int .i64 0,.int .i64 c])∧Below w.heap.size w w':=by
 have AL1:=(Below.refl w.heap.size w).alloc (Lr) (.cells #[.slice aoe ne ce,.slice aor nr cr] 26);have B1:=Ld (AL1.alloc AL1.size (.cells #[.slice none 0 0,.slice none 0 0] 26));have XB:=Ld (Blk.alloc (Blk.new w 26 #[.slice aoe ne ce,.slice aor nr cr]) (.cells #[.slice none 0 0,.slice none 0 0] 26));have RB:Hid (Blk ((w.alloc (.cells #[.slice aoe ne ce,.slice aor nr cr] 26)).alloc (.cells #[.slice none 0 0,.slice none 0 0] 26)) (w.heap.size + 1) 26 #[.slice none 0 0,.slice none 0 0]):=by
  have:=Blk.new (w.alloc (.cells #[.slice aoe ne ce,.slice aor nr cr] 26)) 26 #[.slice none 0 0,.slice none 0 0];simp only [World.size_alloc] at this;exact this
 clear AL1;have hcb:(c != 0)=true:=by simp[hc]
 clear hc;go_enter func46,ntmps46;go_upto_region 1 with fail;obtain⟨X,hX⟩:∃ X,X=w.heap.size:=⟨_,rfl⟩;rw[← hX] at XB RB;rw[← hX];have hXw:w.heap.size≤X:=by omega
 generalize (w.alloc (.cells #[.slice aoe ne ce,.slice aor nr cr] 26)).alloc (.cells #[.slice none 0 0,.slice none 0 0] 26)=w1 at B1 XB RB ⊢;clear hX;have r0:w1.cell? ⟨X + 1,0,none⟩=some (.slice none 0 0):=Blk.cell RB.out 0;have r1:w1.cell? ⟨X + 1,1,none⟩=some (.slice none 0 0):=Blk.cell RB.out 1;have f0:=Blk.frozen RB.out 0;have f1:=Blk.frozen RB.out 1;go_wp2_with fail;refine bodyPost_ret (v:=.tuple #[.agg #[.slice none 0 0,.slice none 0 0],.int .i64 0,.int .i64 c]) (by simp[results,results46,go_sem, *]) rfl ?_;exact⟨rfl,(B1.out.setCell (p:=⟨X + 1,0,none⟩) (by show _≤X + 1;omega) _).setCell (p:=⟨X + 1,1,none⟩) (by show _≤X + 1;omega) _⟩
end Go.Proofs.YtjonkbdldebkiaaGreatDoor
namespace Fd
def z7l (q:Nd→Bool):Mk.Fo→Option Nd
 | .nil=>none
 | .node n a t k r=>if q ⟨n,a,t,k⟩ then some ⟨n,a,t,k⟩ else z7l q r
theorem q5t (title:Bs) (p:Nd→Bool):∀ f:Mk.Fo,z2z title p f=z7l (fun x=>decide (x.name=title) && p x) f
 | .nil=>rfl
 | .node n a t k r=>by
  unfold z2z z7l;rw[q5t title p r]
end Fd
namespace Go.Proofs.YtjonkbdldebkiaaGreatDoor
open Go.Proofs.Tryz Go.RowKit
def q3t (g:FuncId) (lb:Array Value) (q:Fd.Nd→Bool) (f:Mk.Fo) (K:Nat→Prop) (w:World):Prop :=
 ∀ w1,Below w.heap.size w w1→∀ j n a t kk r,f.drop j=.node n a t kk r→∀ va vk,AtsV w1 K va a→FoV w1 K vk kk→Calls prog g (#[z05 n va t vk]++lb) w1 fun e w'=>e=.returned (.bool (q ⟨n,a,t,kk⟩))∧Below w1.heap.size w1 w'
theorem q5a (g:FuncId) (lb:Array Value) (q:Fd.Nd→Bool) (eg:∀ args w,(callFunc g args).run prog w=.ok (.enter g args) w) (f:Mk.Fo) (v:Value) (K:Nat→Prop) (w:World) (hv:FoV w K v f) (hK:∀ b,K b→b < w.heap.size) (hf:f.bulk≤33554432) (hq:q3t g lb q f K w) :
  Calls prog 116 #[v,.func (.func g) #[] lb] w fun e w'=>Below w.heap.size w w'∧∃ i:Int,e=.returned (.int .i64 i)∧((i = -1∧Fd.z7l q f=none)∨∃ j n a t kk r,i=((j:Nat):Int)∧f.drop j=.node n a t kk r∧Fd.z7l q f=some ⟨n,a,t,kk⟩):=by
 obtain⟨b,o,cap,hv1,hlen,hat⟩:=hv.at_
 have HQ:=Ld hq;have HAT:=Ld hat
 have hfl:=Mk.Fo.z1r f;clear hq hat
 rcases hv1 with ⟨hv1,hKb⟩ | ⟨ao,hv1,hnil⟩
 ·have hb:=hK b hKb
  subst hv1;go_enter func116,ntmps116;go_wp2_with fail
  go_loopw [8] (fun i wr=>∃ j:Nat,j≤f.len∧i=.int .i64 j∧Hid (Fd.z7l q f=Fd.z7l q (f.drop j))∧Hid (Below w.heap.size w wr)) (fun i _=>f.len - (intOf i).toNat)
  case atStart=>exact⟨0,Nat.zero_le _,rfl,by show _=_;rw[Mk.Fo.drop_zero],Below.refl _ _⟩
  case round =>
   obtain⟨j,hj,rfl,HA,BL⟩:=hrel
   by_cases hlt:j < f.len
   ·obtain⟨n,a,t,kk,r,hd,hd1⟩:=Mk.Fo.z6j f j hlt
    obtain⟨va,vk,c0,c1,c2,c3,hva,hvk⟩:=HAT.out j n a t kk r hd;rw[← BL.out.cell (p:=⟨b,_,none⟩) hb] at c0 c1 c2 c3;obtain⟨aoa,capa,hva1,_⟩:=id hva;obtain⟨aok,capk,xsk,hvk1,_⟩:=id hvk;subst hva1;subst hvk1;have hcall:=HQ.out wr BL.out j n a t kk r hd _ _ (hva.below hK BL.out) (hvk.below hK BL.out);have HD:Hid (Fd.z7l q f=if q ⟨n,a,t,kk⟩ then some ⟨n,a,t,kk⟩ else Fd.z7l q (f.drop (j + 1))):=by show _=_;rw[HA.out,hd,hd1];rfl
    have HDJ:=Ld hd;generalize q ⟨n,a,t,kk⟩=bb at hcall HD;unfold z05 at hcall;have HCALL:=Ld hcall;have hji:(j:Int) < f.len:=by omega
    clear hcall HA HAT hd hd1 hva hvk
    cases bb with
    | true =>
     go_wp2_with fail;refine HCALL.out.mono ?_;rintro e w1 ⟨rfl,hb1⟩;have BL1:=Ld (BL.out.trans (hb1.mono BL.out.size));clear hb1;go_wp2_with fail;go_ret;exact⟨BL1.out,j,rfl,.inr ⟨j,n,a,t,kk,r,rfl,HDJ.out,by rw[HD.out];rfl⟩⟩
    | false =>
     go_wp2_with fail;refine HCALL.out.mono ?_;rintro e w1 ⟨rfl,hb1⟩;have BL1:=Ld (BL.out.trans (hb1.mono BL.out.size));clear hb1;go_wp2_with fail;go_roundw
     case rel=>exact⟨j + 1,by omega,by go_num,by show _=_;rw[HD.out];rfl,BL1⟩
     case measure=>simp[intOf];omega
   ·have hje:j=f.len:=by omega
    have HN:Hid (Fd.z7l q f=none):=by show _=_;rw[HA.out,hje,Mk.Fo.z4e];rfl
    have hji:¬ (j:Int) < f.len:=by omega
    clear HA HAT hje;go_wp2_with fail;go_ret;exact⟨BL.out,-1,rfl,.inl ⟨rfl,HN.out⟩⟩
 ·subst hnil
  subst hv1;clear HAT hK;go_enter func116,ntmps116;go_wp2_with fail
  go_loopw [8] (fun i wr=>i=.int .i64 0∧wr=w) (fun _ _=>0)
  case atStart=>exact⟨rfl,rfl⟩
  case round =>
   obtain⟨rfl,rfl⟩:=hrel;go_wp2_with fail;go_ret;exact⟨Below.refl _ _,-1,rfl,.inl ⟨rfl,rfl⟩⟩
end Go.Proofs.YtjonkbdldebkiaaGreatDoor
