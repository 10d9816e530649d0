/- Contract of the token reader's method step. Condition: a text of at most 1048576 bytes. -/
import Derived.Test.YtjonkbdldebkiaaGreatDoorVMkTok5
import Derived.Deep.RegionWith
set_option linter.unusedVariables false
set_option linter.unusedSimpArgs false
set_option maxHeartbeats 8000000
set_option maxRecDepth 100000
namespace Mk
theorem j5w (l:Bs) (k:Nat):hereAt (l.drop k)=if q6b (l.drop (k + 1))=true then z6n (l.drop (k + 1)) else if (Mg.pre [60,47] (l.drop k) && q6b (l.drop (k + 2)))=true then z3q (l.drop (k + 2)) else if Mg.pre [60,33,45,45] (l.drop k)=true then z1v [45,45,62] (l.drop (k + 2)) else if (Mg.pre [60,33] (l.drop k) || Mg.pre [60,63] (l.drop k) || Mg.pre [60,47] (l.drop k))=true then z1v [62] (l.drop k) else .text:=by
 unfold hereAt;rw[List.tail_drop,List.drop_drop]
end Mk
namespace Go.Proofs.YtjonkbdldebkiaaGreatDoor
open Go.Proofs.Tryz Go.RowKit
def q3u (H:Mk.Here) (e:Ending) (B R:Nat) (s:ByteArray) (k:Nat) (tx:List UInt8) (ts:List Mk.Tok) (w':World):Prop :=
 match H with
 | .text=>e=.returned (.tuple #[])∧RdS w' B R s (k + 1) (tx++[60]) ts
 | .stop=>e=Gave∧∃ j,RdS w' B R s j tx ts
 | .gone r=>e=.returned (.tuple #[])∧∃ j,j≤s.size∧k < j∧r=s.data.toList.drop j∧RdS w' B R s j tx ts
 | .tag t r=>e=.returned (.tuple #[])∧∃ j,j≤s.size∧k < j∧r=s.data.toList.drop j∧RdS w' B R s j [] (Mk.flush tx ts++[t])
theorem q99.here {H:Mk.Here} {e:Ending} {B R:Nat} {s:ByteArray} {k:Nat} {tx:List UInt8} {ts:List Mk.Tok} {w':World} (h:q99 H e B R s k tx ts w'):q3u H e B R s k tx ts w':=by
 cases H with
 | text=>exact h.elim
 | stop=>exact h
 | gone r=>exact h
 | tag t r=>exact h
def z00 (e:Ending) (B R:Nat) (s:ByteArray) (k:Nat) (tx:List UInt8) (ts:List Mk.Tok) (w':World):Prop :=
 if Mg.pre [60] (s.data.toList.drop k)=true then q3u (Mk.hereAt (s.data.toList.drop k)) e B R s k tx ts w'
 else e=.returned (.tuple #[])∧RdS w' B R s (k + ((s.data.toList.drop k).takeWhile (fun c=>c != 60)).length) (tx++(s.data.toList.drop k).takeWhile (fun c=>c != 60)) ts
section
variable {w : World} {B R : Nat} {s : ByteArray} {k : Nat} {tx : List UInt8} {ts : List Mk.Tok} {ov : Value} {xs : List Value}
theorem Y7 (p:List UInt8) (h:RdO w B R s k tx ts ov xs) (hk:k≤s.size) (hs:s.size≤1048576) {b:Bool} (hb:Mg.pre p (s.data.toList.drop k)=b) :
  Calls prog 232 #[.pointer (some ⟨R,0,none⟩),.string (st p)] w fun e w'=>e=.returned (.bool b)∧Hid (RdO w' B R s k tx ts ov xs)∧Hid (Fr B w w'):=by
 have:=j6w (st p) h.rd hk hs;rw[z1o,hb] at this;refine this.mono ?_;rintro e w' ⟨he,n,rfl⟩;exact⟨he,h.below (below_drewN (Below.refl _ w) n),(Fr.refl B w).drewN n⟩
theorem z02 (m:Nat) (h:RdO w B R s k tx ts ov xs) (hk:k≤s.size) (hs:s.size≤1048576) (hm:m≤2) {b:Bool} (hb:Mk.q6b (s.data.toList.drop (k + m))=b) :
  Calls prog 235 #[.pointer (some ⟨R,0,none⟩),.int .i64 m] w fun e w'=>e=.returned (.bool b)∧Hid (RdO w' B R s k tx ts ov xs)∧Hid (Fr B w w'):=by
 have:=q8p m h.rd hk hs hm;rw[hb] at this;refine this.mono ?_;rintro e w' ⟨he,n,rfl⟩;exact⟨he,h.below (below_drewN (Below.refl _ w) n),(Fr.refl B w).drewN n⟩
theorem q8s (p:List UInt8) (m:Nat) (hg:Gl w) (h:RdO w B R s k tx ts ov xs) (hk:k≤s.size) (hs:s.size≤1048576) (hm:m≤2) (hp:p ≠ []) (hpl:p.length≤3) :
  Calls prog 237 #[.pointer (some ⟨R,0,none⟩),.string (st p),.int .i64 m] w fun e w'=>q3u (Mk.z1v p (s.data.toList.drop (k + m))) e B R s k tx ts w'∧(e=Gave∨e=.returned (.tuple #[]))∧Hid (Fr B w w'):=by
 unfold Mk.z1v
 cases hb:Mk.behind p (s.data.toList.drop (k + m)) with
 | none =>
  refine(q3f p m hg h.rd hk hs hm hp hpl hb).mono ?_;rintro e w' ⟨he,n,rfl⟩;exact⟨⟨he,k,_,_,h.below (below_drewN (Below.refl _ w) n)⟩,.inl he,(Fr.refl B w).drewN n⟩
 | some r =>
  refine(q3g p m hg h.rd hk hs hm hp hpl hb).mono ?_;rintro e w' ⟨he,j,h1,h2,h3,h4,h5⟩;exact⟨⟨he,j,h1,h2,h3,_,_,h.next h5.ap h4⟩,.inr he,Fr.of_ap h h5.ap⟩
theorem z0s {H:Mk.Here} {e:Ending} {w':World} (h:q3u H e B R s k tx ts w'):e=Gave∨e=.returned (.tuple #[]):=by
 cases H with
 | text=>exact .inr h.1
 | stop=>exact .inl h.1
 | gone r=>exact .inr h.1
 | tag t r=>exact .inr h.1
theorem rd_step (hg:Gl w) (h:RdS w B R s k tx ts) (hk:k < s.size) (hs:s.size≤1048576) (htx:tx.length≤1048576) (hts:ts.length≤1048576) :
  Calls prog 186 #[.pointer (some ⟨R,0,none⟩)] w fun e w'=>z00 e B R s k tx ts w'∧Fr B w w':=by
 obtain⟨ov,xs,h⟩:=h;have H0:=Ld h;have L0:=Ld (Fr.refl B w);have hB1:4 < B:=h.hB;have hk':k≤s.size:=by omega
 have HE:=Ld (Mk.j5w s.data.toList k);clear h

 obtain⟨bB0,eB0⟩:∃ b,Mg.pre [60] (s.data.toList.drop k)=b:=⟨_,rfl⟩
 cases bB0 with
 | false =>
  have hB0:=Ld eB0;clear eB0;go_enter func186,ntmps186;go_wp2_with fail;refine(Y7 [60] H0.out hk' hs hB0.out).mono ?_;rintro e w1 ⟨rfl,H1,l1⟩;have L1:=Ld (L0.out.trans l1.out);clear l1 H0 L0;have c2:=H1.out.rd.c2;have HP:=Ld (z4o 234 #[] (fun c=>c != 60) eg_step1 (w:=w1.drew) (H1.out.below ((Below.refl _ w1).drew)).rd hk' hs (fun w' _=>j0r w'));have HEQ:Hid (Mg.pre [60] (s.data.toList.drop k)=false):=hB0;have hpl:=z6d s k hk' (fun c=>c != 60);generalize hpe:(s.data.toList.drop k).takeWhile (fun c=>c != 60)=p at HP hpl;have HPE:=Ld hpe;clear hpe;have q1:¬ 9223372036854775807 < (st tx).size + (st p).size:=by rw[Z4,Z4];omega
  go_upto_region 3 with fail
  go_region_with (go_at_call 233;refine HP.out.mono ?_;rintro e w7 ⟨rfl,RD7,MV7⟩;have d2:=RD7.c2;have g2:=RD7.fz 2)
  all_goals
   rw[show st tx++st p=st (tx++p) from z3m (st tx) (st p)];have HA:=Ld (((H1.out.below ((Below.refl _ w1).drew)).next MV7.ap RD7).setText (tx++p));have LA:=Ld ((L1.out.drew.trans (Fr.of_ap (H1.out.below ((Below.refl _ w1).drew)) MV7.ap)).trans (Fr.own ((H1.out.below ((Below.refl _ w1).drew)).next MV7.ap RD7) 2 (.string (st (tx++p)))));clear HP RD7 MV7 d2 g2;go_wp2_with fail;go_end0;exact⟨by rw[z00,if_neg (by rw[HEQ.out];decide),HPE.out];exact⟨rfl,_,_,HA.out⟩,LA.out⟩
 | true =>
  have hB0:=Ld eB0;clear eB0;obtain⟨bL1,eL1⟩:∃ b,Mk.q6b (s.data.toList.drop (k + 1))=b:=⟨_,rfl⟩
  cases bL1 with
  | false =>
   have hL1:=Ld eL1;clear eL1;obtain⟨bB2,eB2⟩:∃ b,Mg.pre [60,47] (s.data.toList.drop k)=b:=⟨_,rfl⟩
   cases bB2 with
   | false =>
    have hB2:=Ld eB2;clear eB2;obtain⟨bB4,eB4⟩:∃ b,Mg.pre [60,33,45,45] (s.data.toList.drop k)=b:=⟨_,rfl⟩
    cases bB4 with
    | false =>
     have hB4:=Ld eB4;clear eB4;obtain⟨bB5,eB5⟩:∃ b,Mg.pre [60,33] (s.data.toList.drop k)=b:=⟨_,rfl⟩
     cases bB5 with
     | false =>
      have hB5:=Ld eB5;clear eB5;obtain⟨bB6,eB6⟩:∃ b,Mg.pre [60,63] (s.data.toList.drop k)=b:=⟨_,rfl⟩
      cases bB6 with
      | false =>
       have hB6:=Ld eB6;clear eB6;have HX:Hid (Mk.hereAt (s.data.toList.drop k)=Mk.Here.text):=by show _=_;rw[HE.out];simp[hB0.out,hL1.out,hB2.out,hB4.out,hB5.out,hB6.out]
       go_enter func186,ntmps186;go_wp2_with fail;refine(Y7 [60] H0.out hk' hs hB0.out).mono ?_;rintro e w1 ⟨rfl,H1,l1⟩;have L1:=Ld (L0.out.trans l1.out);clear l1 H0 L0;go_wp2_with fail;refine(z02 1 H1.out hk' hs (by omega) hL1.out).mono ?_;rintro e w2 ⟨rfl,H2,l2⟩;have L2:=Ld (L1.out.trans l2.out);clear l2 H1 L1;go_wp2_with fail;refine(Y7 [60,47] H2.out hk' hs hB2.out).mono ?_;rintro e w3 ⟨rfl,H3,l3⟩;have L3:=Ld (L2.out.trans l3.out);clear l3 H2 L2;go_wp2_with fail;refine(Y7 [60,33,45,45] H3.out hk' hs hB4.out).mono ?_;rintro e w4 ⟨rfl,H4,l4⟩;have L4:=Ld (L3.out.trans l4.out);clear l4 H3 L3;go_wp2_with fail;refine(Y7 [60,33] H4.out hk' hs hB5.out).mono ?_;rintro e w5 ⟨rfl,H5,l5⟩;have L5:=Ld (L4.out.trans l5.out);clear l5 H4 L4;go_wp2_with fail;refine(Y7 [60,63] H5.out hk' hs hB6.out).mono ?_;rintro e w6 ⟨rfl,H6,l6⟩;have L6:=Ld (L5.out.trans l6.out);clear l6 H5 L5;go_wp2_with fail;refine(Y7 [60,47] H6.out hk' hs hB2.out).mono ?_;rintro e w7 ⟨rfl,H7,l7⟩;have L7:=Ld (L6.out.trans l7.out);clear l7 H6 L6;have c1:=H7.out.rd.c1;have c2:=H7.out.rd.c2;have f1:=H7.out.rd.fz 1;have f2:=H7.out.rd.fz 2;have q1:¬ 9223372036854775807 < (st tx).size + (⟨#[60]⟩:ByteArray).size:=by rw[Z4,show (⟨#[60]⟩:ByteArray).size=1 from rfl];omega
       go_upto_region 1 with fail;rw[show st tx++(⟨#[60]⟩:ByteArray)=st (tx++[60]) from z3m (st tx) (st [60])];have HA:=Ld (H7.out.setText (tx++[60]));have LA:=Ld (L7.out.trans (Fr.own H7.out 2 (.string (st (tx++[60])))));generalize w7.setCell ⟨R,2,none⟩ (.string (st (tx++[60])))=wa at HA LA ⊢;clear c1 c2 f1 f2;have c1:=HA.out.rd.c1;have f1:=HA.out.rd.fz 1;go_wp2_with fail;go_end0;refine⟨?_,LA.out.trans (Fr.own HA.out 1 _)⟩;rw[z00,if_pos hB0.out,HX.out];exact⟨rfl,_,_,by have:=HA.out.setAt (k + 1);simpa using this⟩
      | true =>
       have hB6:=Ld eB6;clear eB6;have HX:Hid (Mk.hereAt (s.data.toList.drop k)=Mk.z1v [62] (s.data.toList.drop (k + 0))):=by show _=_;rw[HE.out];simp[hB0.out,hL1.out,hB2.out,hB4.out,hB5.out,hB6.out]
       go_enter func186,ntmps186;go_wp2_with fail;refine(Y7 [60] H0.out hk' hs hB0.out).mono ?_;rintro e w1 ⟨rfl,H1,l1⟩;have L1:=Ld (L0.out.trans l1.out);clear l1 H0 L0;go_wp2_with fail;refine(z02 1 H1.out hk' hs (by omega) hL1.out).mono ?_;rintro e w2 ⟨rfl,H2,l2⟩;have L2:=Ld (L1.out.trans l2.out);clear l2 H1 L1;go_wp2_with fail;refine(Y7 [60,47] H2.out hk' hs hB2.out).mono ?_;rintro e w3 ⟨rfl,H3,l3⟩;have L3:=Ld (L2.out.trans l3.out);clear l3 H2 L2;go_wp2_with fail;refine(Y7 [60,33,45,45] H3.out hk' hs hB4.out).mono ?_;rintro e w4 ⟨rfl,H4,l4⟩;have L4:=Ld (L3.out.trans l4.out);clear l4 H3 L3;go_wp2_with fail;refine(Y7 [60,33] H4.out hk' hs hB5.out).mono ?_;rintro e w5 ⟨rfl,H5,l5⟩;have L5:=Ld (L4.out.trans l5.out);clear l5 H4 L4;go_wp2_with fail;refine(Y7 [60,63] H5.out hk' hs hB6.out).mono ?_;rintro e w6 ⟨rfl,H6,l6⟩;have L6:=Ld (L5.out.trans l6.out);clear l6 H5 L5;have hg6:=hg.below L6.out.below hB1;have HC:=Ld (q8s [62] 0 hg6 H6.out hk' hs (by omega) (by decide) (by decide));clear hg6;go_wp2_with fail;refine HC.out.mono ?_;rintro e wz ⟨hr,_,hbz⟩;have hbz:=hbz.out;have RES:Hid (z00 e B R s k tx ts wz):=by show z00 _ _ _ _ _ _ _ _;rw[z00,if_pos hB0.out,HX.out];exact hr
       have LZ:=Ld (L6.out.trans hbz)
       rcases z0s hr with rfl | rfl
       all_goals clear hr hbz HC
       ·go_wp2_with fail
        exact⟨rfl,RES.out,LZ.out⟩
       ·go_wp2_with fail
        go_end0;exact⟨RES.out,LZ.out⟩
     | true =>
      have hB5:=Ld eB5;clear eB5;have HX:Hid (Mk.hereAt (s.data.toList.drop k)=Mk.z1v [62] (s.data.toList.drop (k + 0))):=by show _=_;rw[HE.out];simp[hB0.out,hL1.out,hB2.out,hB4.out,hB5.out]
      go_enter func186,ntmps186;go_wp2_with fail;refine(Y7 [60] H0.out hk' hs hB0.out).mono ?_;rintro e w1 ⟨rfl,H1,l1⟩;have L1:=Ld (L0.out.trans l1.out);clear l1 H0 L0;go_wp2_with fail;refine(z02 1 H1.out hk' hs (by omega) hL1.out).mono ?_;rintro e w2 ⟨rfl,H2,l2⟩;have L2:=Ld (L1.out.trans l2.out);clear l2 H1 L1;go_wp2_with fail;refine(Y7 [60,47] H2.out hk' hs hB2.out).mono ?_;rintro e w3 ⟨rfl,H3,l3⟩;have L3:=Ld (L2.out.trans l3.out);clear l3 H2 L2;go_wp2_with fail;refine(Y7 [60,33,45,45] H3.out hk' hs hB4.out).mono ?_;rintro e w4 ⟨rfl,H4,l4⟩;have L4:=Ld (L3.out.trans l4.out);clear l4 H3 L3;go_wp2_with fail;refine(Y7 [60,33] H4.out hk' hs hB5.out).mono ?_;rintro e w5 ⟨rfl,H5,l5⟩;have L5:=Ld (L4.out.trans l5.out);clear l5 H4 L4;have hg5:=hg.below L5.out.below hB1;have HC:=Ld (q8s [62] 0 hg5 H5.out hk' hs (by omega) (by decide) (by decide));clear hg5;go_wp2_with fail;refine HC.out.mono ?_;rintro e wz ⟨hr,_,hbz⟩;have hbz:=hbz.out;have RES:Hid (z00 e B R s k tx ts wz):=by show z00 _ _ _ _ _ _ _ _;rw[z00,if_pos hB0.out,HX.out];exact hr
      have LZ:=Ld (L5.out.trans hbz)
      rcases z0s hr with rfl | rfl
      all_goals clear hr hbz HC
      ·go_wp2_with fail
       exact⟨rfl,RES.out,LZ.out⟩
      ·go_wp2_with fail
       go_end0;exact⟨RES.out,LZ.out⟩
    | true =>
     have hB4:=Ld eB4;clear eB4;have HX:Hid (Mk.hereAt (s.data.toList.drop k)=Mk.z1v [45,45,62] (s.data.toList.drop (k + 2))):=by show _=_;rw[HE.out];simp[hB0.out,hL1.out,hB2.out,hB4.out]
     go_enter func186,ntmps186;go_wp2_with fail;refine(Y7 [60] H0.out hk' hs hB0.out).mono ?_;rintro e w1 ⟨rfl,H1,l1⟩;have L1:=Ld (L0.out.trans l1.out);clear l1 H0 L0;go_wp2_with fail;refine(z02 1 H1.out hk' hs (by omega) hL1.out).mono ?_;rintro e w2 ⟨rfl,H2,l2⟩;have L2:=Ld (L1.out.trans l2.out);clear l2 H1 L1;go_wp2_with fail;refine(Y7 [60,47] H2.out hk' hs hB2.out).mono ?_;rintro e w3 ⟨rfl,H3,l3⟩;have L3:=Ld (L2.out.trans l3.out);clear l3 H2 L2;go_wp2_with fail;refine(Y7 [60,33,45,45] H3.out hk' hs hB4.out).mono ?_;rintro e w4 ⟨rfl,H4,l4⟩;have L4:=Ld (L3.out.trans l4.out);clear l4 H3 L3;have hg4:=hg.below L4.out.below hB1;have HC:=Ld (q8s [45,45,62] 2 hg4 H4.out hk' hs (by omega) (by decide) (by decide));clear hg4;go_wp2_with fail;refine HC.out.mono ?_;rintro e wz ⟨hr,_,hbz⟩;have hbz:=hbz.out;have RES:Hid (z00 e B R s k tx ts wz):=by show z00 _ _ _ _ _ _ _ _;rw[z00,if_pos hB0.out,HX.out];exact hr
     have LZ:=Ld (L4.out.trans hbz)
     rcases z0s hr with rfl | rfl
     all_goals clear hr hbz HC
     ·go_wp2_with fail
      exact⟨rfl,RES.out,LZ.out⟩
     ·go_wp2_with fail
      go_end0;exact⟨RES.out,LZ.out⟩
   | true =>
    have hB2:=Ld eB2;clear eB2;obtain⟨bL2,eL2⟩:∃ b,Mk.q6b (s.data.toList.drop (k + 2))=b:=⟨_,rfl⟩
    cases bL2 with
    | false =>
     have hL2:=Ld eL2;clear eL2;obtain⟨bB4,eB4⟩:∃ b,Mg.pre [60,33,45,45] (s.data.toList.drop k)=b:=⟨_,rfl⟩
     cases bB4 with
     | false =>
      have hB4:=Ld eB4;clear eB4;obtain⟨bB5,eB5⟩:∃ b,Mg.pre [60,33] (s.data.toList.drop k)=b:=⟨_,rfl⟩
      cases bB5 with
      | false =>
       have hB5:=Ld eB5;clear eB5;obtain⟨bB6,eB6⟩:∃ b,Mg.pre [60,63] (s.data.toList.drop k)=b:=⟨_,rfl⟩
       cases bB6 with
       | false =>
        have hB6:=Ld eB6;clear eB6;have HX:Hid (Mk.hereAt (s.data.toList.drop k)=Mk.z1v [62] (s.data.toList.drop (k + 0))):=by show _=_;rw[HE.out];simp[hB0.out,hL1.out,hB2.out,hL2.out,hB4.out,hB5.out,hB6.out]
        go_enter func186,ntmps186;go_wp2_with fail;refine(Y7 [60] H0.out hk' hs hB0.out).mono ?_;rintro e w1 ⟨rfl,H1,l1⟩;have L1:=Ld (L0.out.trans l1.out);clear l1 H0 L0;go_wp2_with fail;refine(z02 1 H1.out hk' hs (by omega) hL1.out).mono ?_;rintro e w2 ⟨rfl,H2,l2⟩;have L2:=Ld (L1.out.trans l2.out);clear l2 H1 L1;go_wp2_with fail;refine(Y7 [60,47] H2.out hk' hs hB2.out).mono ?_;rintro e w3 ⟨rfl,H3,l3⟩;have L3:=Ld (L2.out.trans l3.out);clear l3 H2 L2;go_wp2_with fail;refine(z02 2 H3.out hk' hs (by omega) hL2.out).mono ?_;rintro e w4 ⟨rfl,H4,l4⟩;have L4:=Ld (L3.out.trans l4.out);clear l4 H3 L3;go_wp2_with fail;refine(Y7 [60,33,45,45] H4.out hk' hs hB4.out).mono ?_;rintro e w5 ⟨rfl,H5,l5⟩;have L5:=Ld (L4.out.trans l5.out);clear l5 H4 L4;go_wp2_with fail;refine(Y7 [60,33] H5.out hk' hs hB5.out).mono ?_;rintro e w6 ⟨rfl,H6,l6⟩;have L6:=Ld (L5.out.trans l6.out);clear l6 H5 L5;go_wp2_with fail;refine(Y7 [60,63] H6.out hk' hs hB6.out).mono ?_;rintro e w7 ⟨rfl,H7,l7⟩;have L7:=Ld (L6.out.trans l7.out);clear l7 H6 L6;go_wp2_with fail;refine(Y7 [60,47] H7.out hk' hs hB2.out).mono ?_;rintro e w8 ⟨rfl,H8,l8⟩;have L8:=Ld (L7.out.trans l8.out);clear l8 H7 L7;have hg8:=hg.below L8.out.below hB1;have HC:=Ld (q8s [62] 0 hg8 H8.out hk' hs (by omega) (by decide) (by decide));clear hg8;go_wp2_with fail;refine HC.out.mono ?_;rintro e wz ⟨hr,_,hbz⟩;have hbz:=hbz.out;have RES:Hid (z00 e B R s k tx ts wz):=by show z00 _ _ _ _ _ _ _ _;rw[z00,if_pos hB0.out,HX.out];exact hr
        have LZ:=Ld (L8.out.trans hbz)
        rcases z0s hr with rfl | rfl
        all_goals clear hr hbz HC
        ·go_wp2_with fail
         exact⟨rfl,RES.out,LZ.out⟩
        ·go_wp2_with fail
         go_end0;exact⟨RES.out,LZ.out⟩
       | true =>
        have hB6:=Ld eB6;clear eB6;have HX:Hid (Mk.hereAt (s.data.toList.drop k)=Mk.z1v [62] (s.data.toList.drop (k + 0))):=by show _=_;rw[HE.out];simp[hB0.out,hL1.out,hB2.out,hL2.out,hB4.out,hB5.out,hB6.out]
        go_enter func186,ntmps186;go_wp2_with fail;refine(Y7 [60] H0.out hk' hs hB0.out).mono ?_;rintro e w1 ⟨rfl,H1,l1⟩;have L1:=Ld (L0.out.trans l1.out);clear l1 H0 L0;go_wp2_with fail;refine(z02 1 H1.out hk' hs (by omega) hL1.out).mono ?_;rintro e w2 ⟨rfl,H2,l2⟩;have L2:=Ld (L1.out.trans l2.out);clear l2 H1 L1;go_wp2_with fail;refine(Y7 [60,47] H2.out hk' hs hB2.out).mono ?_;rintro e w3 ⟨rfl,H3,l3⟩;have L3:=Ld (L2.out.trans l3.out);clear l3 H2 L2;go_wp2_with fail;refine(z02 2 H3.out hk' hs (by omega) hL2.out).mono ?_;rintro e w4 ⟨rfl,H4,l4⟩;have L4:=Ld (L3.out.trans l4.out);clear l4 H3 L3;go_wp2_with fail;refine(Y7 [60,33,45,45] H4.out hk' hs hB4.out).mono ?_;rintro e w5 ⟨rfl,H5,l5⟩;have L5:=Ld (L4.out.trans l5.out);clear l5 H4 L4;go_wp2_with fail;refine(Y7 [60,33] H5.out hk' hs hB5.out).mono ?_;rintro e w6 ⟨rfl,H6,l6⟩;have L6:=Ld (L5.out.trans l6.out);clear l6 H5 L5;go_wp2_with fail;refine(Y7 [60,63] H6.out hk' hs hB6.out).mono ?_;rintro e w7 ⟨rfl,H7,l7⟩;have L7:=Ld (L6.out.trans l7.out);clear l7 H6 L6;have hg7:=hg.below L7.out.below hB1;have HC:=Ld (q8s [62] 0 hg7 H7.out hk' hs (by omega) (by decide) (by decide));clear hg7;go_wp2_with fail;refine HC.out.mono ?_;rintro e wz ⟨hr,_,hbz⟩;have hbz:=hbz.out;have RES:Hid (z00 e B R s k tx ts wz):=by show z00 _ _ _ _ _ _ _ _;rw[z00,if_pos hB0.out,HX.out];exact hr
        have LZ:=Ld (L7.out.trans hbz)
        rcases z0s hr with rfl | rfl
        all_goals clear hr hbz HC
        ·go_wp2_with fail
         exact⟨rfl,RES.out,LZ.out⟩
        ·go_wp2_with fail
         go_end0;exact⟨RES.out,LZ.out⟩
      | true =>
       have hB5:=Ld eB5;clear eB5;have HX:Hid (Mk.hereAt (s.data.toList.drop k)=Mk.z1v [62] (s.data.toList.drop (k + 0))):=by show _=_;rw[HE.out];simp[hB0.out,hL1.out,hB2.out,hL2.out,hB4.out,hB5.out]
       go_enter func186,ntmps186;go_wp2_with fail;refine(Y7 [60] H0.out hk' hs hB0.out).mono ?_;rintro e w1 ⟨rfl,H1,l1⟩;have L1:=Ld (L0.out.trans l1.out);clear l1 H0 L0;go_wp2_with fail;refine(z02 1 H1.out hk' hs (by omega) hL1.out).mono ?_;rintro e w2 ⟨rfl,H2,l2⟩;have L2:=Ld (L1.out.trans l2.out);clear l2 H1 L1;go_wp2_with fail;refine(Y7 [60,47] H2.out hk' hs hB2.out).mono ?_;rintro e w3 ⟨rfl,H3,l3⟩;have L3:=Ld (L2.out.trans l3.out);clear l3 H2 L2;go_wp2_with fail;refine(z02 2 H3.out hk' hs (by omega) hL2.out).mono ?_;rintro e w4 ⟨rfl,H4,l4⟩;have L4:=Ld (L3.out.trans l4.out);clear l4 H3 L3;go_wp2_with fail;refine(Y7 [60,33,45,45] H4.out hk' hs hB4.out).mono ?_;rintro e w5 ⟨rfl,H5,l5⟩;have L5:=Ld (L4.out.trans l5.out);clear l5 H4 L4;go_wp2_with fail;refine(Y7 [60,33] H5.out hk' hs hB5.out).mono ?_;rintro e w6 ⟨rfl,H6,l6⟩;have L6:=Ld (L5.out.trans l6.out);clear l6 H5 L5;have hg6:=hg.below L6.out.below hB1;have HC:=Ld (q8s [62] 0 hg6 H6.out hk' hs (by omega) (by decide) (by decide));clear hg6;go_wp2_with fail;refine HC.out.mono ?_;rintro e wz ⟨hr,_,hbz⟩;have hbz:=hbz.out;have RES:Hid (z00 e B R s k tx ts wz):=by show z00 _ _ _ _ _ _ _ _;rw[z00,if_pos hB0.out,HX.out];exact hr
       have LZ:=Ld (L6.out.trans hbz)
       rcases z0s hr with rfl | rfl
       all_goals clear hr hbz HC
       ·go_wp2_with fail
        exact⟨rfl,RES.out,LZ.out⟩
       ·go_wp2_with fail
        go_end0;exact⟨RES.out,LZ.out⟩
     | true =>
      have hB4:=Ld eB4;clear eB4;have HX:Hid (Mk.hereAt (s.data.toList.drop k)=Mk.z1v [45,45,62] (s.data.toList.drop (k + 2))):=by show _=_;rw[HE.out];simp[hB0.out,hL1.out,hB2.out,hL2.out,hB4.out]
      go_enter func186,ntmps186;go_wp2_with fail;refine(Y7 [60] H0.out hk' hs hB0.out).mono ?_;rintro e w1 ⟨rfl,H1,l1⟩;have L1:=Ld (L0.out.trans l1.out);clear l1 H0 L0;go_wp2_with fail;refine(z02 1 H1.out hk' hs (by omega) hL1.out).mono ?_;rintro e w2 ⟨rfl,H2,l2⟩;have L2:=Ld (L1.out.trans l2.out);clear l2 H1 L1;go_wp2_with fail;refine(Y7 [60,47] H2.out hk' hs hB2.out).mono ?_;rintro e w3 ⟨rfl,H3,l3⟩;have L3:=Ld (L2.out.trans l3.out);clear l3 H2 L2;go_wp2_with fail;refine(z02 2 H3.out hk' hs (by omega) hL2.out).mono ?_;rintro e w4 ⟨rfl,H4,l4⟩;have L4:=Ld (L3.out.trans l4.out);clear l4 H3 L3;go_wp2_with fail;refine(Y7 [60,33,45,45] H4.out hk' hs hB4.out).mono ?_;rintro e w5 ⟨rfl,H5,l5⟩;have L5:=Ld (L4.out.trans l5.out);clear l5 H4 L4;have hg5:=hg.below L5.out.below hB1;have HC:=Ld (q8s [45,45,62] 2 hg5 H5.out hk' hs (by omega) (by decide) (by decide));clear hg5;go_wp2_with fail;refine HC.out.mono ?_;rintro e wz ⟨hr,_,hbz⟩;have hbz:=hbz.out;have RES:Hid (z00 e B R s k tx ts wz):=by show z00 _ _ _ _ _ _ _ _;rw[z00,if_pos hB0.out,HX.out];exact hr
      have LZ:=Ld (L5.out.trans hbz)
      rcases z0s hr with rfl | rfl
      all_goals clear hr hbz HC
      ·go_wp2_with fail
       exact⟨rfl,RES.out,LZ.out⟩
      ·go_wp2_with fail
       go_end0;exact⟨RES.out,LZ.out⟩
    | true =>
     have hL2:=Ld eL2;clear eL2;have HX:Hid (Mk.hereAt (s.data.toList.drop k)=Mk.z3q (s.data.toList.drop (k + 2))):=by show _=_;rw[HE.out];simp[hB0.out,hL1.out,hB2.out,hL2.out]
     go_enter func186,ntmps186;go_wp2_with fail;refine(Y7 [60] H0.out hk' hs hB0.out).mono ?_;rintro e w1 ⟨rfl,H1,l1⟩;have L1:=Ld (L0.out.trans l1.out);clear l1 H0 L0;go_wp2_with fail;refine(z02 1 H1.out hk' hs (by omega) hL1.out).mono ?_;rintro e w2 ⟨rfl,H2,l2⟩;have L2:=Ld (L1.out.trans l2.out);clear l2 H1 L1;go_wp2_with fail;refine(Y7 [60,47] H2.out hk' hs hB2.out).mono ?_;rintro e w3 ⟨rfl,H3,l3⟩;have L3:=Ld (L2.out.trans l3.out);clear l3 H2 L2;go_wp2_with fail;refine(z02 2 H3.out hk' hs (by omega) hL2.out).mono ?_;rintro e w4 ⟨rfl,H4,l4⟩;have L4:=Ld (L3.out.trans l4.out);clear l4 H3 L3;have hg4:=hg.below L4.out.below hB1;have hk2:k + 2≤s.size:=by
      rcases Nat.lt_or_ge (k + 2) s.size with q | q
      ·omega
      ·exfalso;have q2:=hL2.out;rw[List.drop_of_length_le (by simp;omega)] at q2;cases q2
     have HC:=Ld (q6v hg4 ⟨_,_,H4.out⟩ hk2 hs htx hts);clear hg4;go_wp2_with fail;refine HC.out.mono ?_;rintro e wz ⟨hr,hbz⟩;have hr:=hr.here;have RES:Hid (z00 e B R s k tx ts wz):=by show z00 _ _ _ _ _ _ _ _;rw[z00,if_pos hB0.out,HX.out];exact hr
     have LZ:=Ld (L4.out.trans hbz)
     rcases z0s hr with rfl | rfl
     all_goals clear hr hbz HC
     ·go_wp2_with fail
      exact⟨rfl,RES.out,LZ.out⟩
     ·go_wp2_with fail
      go_end0;exact⟨RES.out,LZ.out⟩
  | true =>
   have hL1:=Ld eL1;clear eL1;have HX:Hid (Mk.hereAt (s.data.toList.drop k)=Mk.z6n (s.data.toList.drop (k + 1))):=by show _=_;rw[HE.out];simp[hB0.out,hL1.out]
   go_enter func186,ntmps186;go_wp2_with fail;refine(Y7 [60] H0.out hk' hs hB0.out).mono ?_;rintro e w1 ⟨rfl,H1,l1⟩;have L1:=Ld (L0.out.trans l1.out);clear l1 H0 L0;go_wp2_with fail;refine(z02 1 H1.out hk' hs (by omega) hL1.out).mono ?_;rintro e w2 ⟨rfl,H2,l2⟩;have L2:=Ld (L1.out.trans l2.out);clear l2 H1 L1;have hg2:=hg.below L2.out.below hB1;have HC:=Ld (q8q hg2 ⟨_,_,H2.out⟩ (by omega) hs htx hts);clear hg2;go_wp2_with fail;refine HC.out.mono ?_;rintro e wz ⟨hr,hbz⟩;have hr:=hr.here;have RES:Hid (z00 e B R s k tx ts wz):=by show z00 _ _ _ _ _ _ _ _;rw[z00,if_pos hB0.out,HX.out];exact hr
   have LZ:=Ld (L2.out.trans hbz)
   rcases z0s hr with rfl | rfl
   all_goals clear hr hbz HC
   ·go_wp2_with fail
    exact⟨rfl,RES.out,LZ.out⟩
   ·go_wp2_with fail
    go_end0;exact⟨RES.out,LZ.out⟩
end
end Go.Proofs.YtjonkbdldebkiaaGreatDoor
