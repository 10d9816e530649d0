/- Contract of the program's date.Web. -/
import Derived.Test.YtjonkbdldebkiaaGreatDoorYWeA
import Derived.Test.YtjonkbdldebkiaaGreatDoorYMkStay3
import Derived.Test.YtjonkbdldebkiaaGreatDoorYWfN
set_option linter.unusedVariables false
set_option linter.unusedSimpArgs false
set_option maxHeartbeats 16000000
set_option maxRecDepth 100000
namespace Fd
theorem z7q (of:Bs) (r:Dr):(Y6 of r).2.s.length≤r.s.length:=by
 obtain⟨s,sh⟩:=r
 cases s with
 | nil=>exact Nat.le_refl _
 | cons c t =>
  show (if of.contains c then (c,(⟨t,sh⟩:Dr)) else (0,⟨[],true⟩)).2.s.length≤(c :: t).length
  split
  ·exact Nat.le_succ _
  ·exact Nat.zero_le _
theorem j7x:∀ (k:Nat) (n:Int) (r:Dr),(digD k n r).2.s.length≤r.s.length
 | 0,_,_=>Nat.le_refl _
 | k + 1,n,r=>Nat.le_trans (j7x k _ _) (z7q tenD r)
theorem j4i (k:Nat) (m:Int) (r:Dr):(Z8 k m r).2.s.length≤r.s.length:=j7x k 0 r
theorem y0k (r:Dr):(z1r r).2.s.length≤r.s.length:=by
 unfold z1r
 split
 ·show (r.s.drop 3).length≤_;rw[List.length_drop];omega
 ·exact Nat.zero_le _
def webE (y m d c:Int × Dr):Int × Int :=
 if c.2.s=[90] then z7u y.1 m.1 d.1 c.1 0 ⟨[],c.2.short⟩ else z7u y.1 m.1 d.1 c.1 (z2y [58] c.2).1 (z2y [58] c.2).2
theorem webE_is (y m d c:Int × Dr):webE y m d c=if c.2.s=[90] then z7u y.1 m.1 d.1 c.1 0 ⟨[],c.2.short⟩ else z7u y.1 m.1 d.1 c.1 (z2y [58] c.2).1 (z2y [58] c.2).2:=rfl
def mailE (y m d c:Int × Dr) (z:Dr):Int × Int :=
 if z.s=[71,77,84]∨z.s=[85,84] then z7u y.1 m.1 d.1 c.1 0 ⟨[],z.short⟩ else z7u y.1 m.1 d.1 c.1 (z2y [] z).1 (z2y [] z).2
def q2s (s:Bs):Dr:=match s with
 | []=>⟨s,false⟩
 | c :: _=>if z2h c then (Y6 [32] (Y6 [44] (z1r ⟨s,false⟩).2).2).2 else ⟨s,false⟩
def manyD (r:Dr):Nat:=match r.s with
 | _ :: c :: _=>if c=32 then 1 else 2
 | _=>1
def mailF (b:Dr) (many:Nat):Int × Int :=
 let d:=Z8 many 99 b
 let m:=z5a (Y6 [32] d.2).2
 let y:=Z8 4 9999 (Y6 [32] m.2).2
 let c:=z4f (Y6 [32] y.2).2
 mailE y m d c (Y6 [32] c.2).2
theorem mail_is (s:Bs):q7z s=mailF (q2s s) (manyD (q2s s)):=by
 cases s <;> rfl
end Fd
namespace Go.Proofs.YtjonkbdldebkiaaGreatDoor
open Go.RowKit
theorem dt_Web (s:List UInt8) (w:World) :
  Calls Tryz.prog 59 #[.string (st s)] w fun e w'=>e=.returned (.tuple #[.int .i64 (Fd.webD s).1,.int .i64 (Fd.webD s).2])∧Below w.heap.size w w':=by
 have hst:∀ l:List UInt8,(st l).toList=l:=fun l=>Lib.toList_data _
 have HC:Hid (Fd.webD s=Fd.webE (Fd.Z8 4 9999 ⟨s,false⟩) (Fd.Z8 2 99 (Fd.Y6 [45] (Fd.Z8 4 9999 ⟨s,false⟩).2).2) (Fd.Z8 2 99 (Fd.Y6 [45] (Fd.Z8 2 99 (Fd.Y6 [45] (Fd.Z8 4 9999 ⟨s,false⟩).2).2).2).2) (Fd.z4f (Fd.Y6 [84] (Fd.Z8 2 99 (Fd.Y6 [45] (Fd.Z8 2 99 (Fd.Y6 [45] (Fd.Z8 4 9999 ⟨s,false⟩).2).2).2).2).2).2)):=rfl;generalize Fd.webD s=out at HC ⊢;have DR0:Hid (DrS (w.alloc (.cells #[.string (st s),.bool false] 160)) w.heap.size ⟨s,false⟩):=Blk.new w 160 #[.string (st s),.bool false];have BL0:=Lib.hid ((Below.refl w.heap.size w).alloc (Nat.le_refl _) (.cells #[.string (st s),.bool false] 160));go_enter Tryz.func59,Tryz.ntmps59;go_upto_region 2 with fail;generalize (w.alloc (.cells #[.string (st s),.bool false] 160))=w0 at DR0 BL0 ⊢;have AP0:Hid (Ap (fun b=>b=w.heap.size) w0 w0):=Ap.refl _ _;have K1:=Lib.hid (z1b 4 9999 ⟨s,false⟩ w.heap.size w0 DR0.out (by decide));generalize (Fd.Z8 4 9999 ⟨s,false⟩)=x1 at K1 HC;obtain⟨a1,b1⟩:=x1;simp only at K1 HC;go_wp2_with fail;refine K1.out.mono ?_;rintro e w1 ⟨rfl,hd,ha,p1a,p1b⟩;have DR1:=Lib.hid hd;have AP1:=Lib.hid (AP0.out.trans ha);clear hd ha K1 DR0 AP0;have K2:=Lib.hid (z1m [45] b1 w.heap.size w1 DR1.out (by decide));generalize Fd.Y6 [45] b1=x2 at K2 HC;obtain⟨g2,b2⟩:=x2;simp only at K2 HC;go_wp2_with fail;refine K2.out.mono ?_;rintro e w2 ⟨rfl,hd,ha⟩;have DR2:=Lib.hid hd;have AP2:=Lib.hid (AP1.out.trans ha);clear hd ha K2 DR1 AP1;have K3:=Lib.hid (z1b 2 99 b2 w.heap.size w2 DR2.out (by decide));generalize Fd.Z8 2 99 b2=x3 at K3 HC;obtain⟨a3,b3⟩:=x3;simp only at K3 HC;go_wp2_with fail;refine K3.out.mono ?_;rintro e w3 ⟨rfl,hd,ha,p3a,p3b⟩;have DR3:=Lib.hid hd;have AP3:=Lib.hid (AP2.out.trans ha);clear hd ha K3 DR2 AP2;have K4:=Lib.hid (z1m [45] b3 w.heap.size w3 DR3.out (by decide));generalize Fd.Y6 [45] b3=x4 at K4 HC;obtain⟨g4,b4⟩:=x4;simp only at K4 HC;go_wp2_with fail;refine K4.out.mono ?_;rintro e w4 ⟨rfl,hd,ha⟩;have DR4:=Lib.hid hd;have AP4:=Lib.hid (AP3.out.trans ha);clear hd ha K4 DR3 AP3;have K5:=Lib.hid (z1b 2 99 b4 w.heap.size w4 DR4.out (by decide));generalize Fd.Z8 2 99 b4=x5 at K5 HC;obtain⟨a5,b5⟩:=x5;simp only at K5 HC;go_wp2_with fail;refine K5.out.mono ?_;rintro e w5 ⟨rfl,hd,ha,p5a,p5b⟩;have DR5:=Lib.hid hd;have AP5:=Lib.hid (AP4.out.trans ha);clear hd ha K5 DR4 AP4;have K6:=Lib.hid (z1m [84] b5 w.heap.size w5 DR5.out (by decide));generalize Fd.Y6 [84] b5=x6 at K6 HC;obtain⟨g6,b6⟩:=x6;simp only at K6 HC;go_wp2_with fail;refine K6.out.mono ?_;rintro e w6 ⟨rfl,hd,ha⟩;have DR6:=Lib.hid hd;have AP6:=Lib.hid (AP5.out.trans ha);clear hd ha K6 DR5 AP5;have K7:=Lib.hid (j1l b6 w.heap.size w6 DR6.out);generalize Fd.z4f b6=x7 at K7 HC;obtain⟨a7,b7⟩:=x7;simp only at K7 HC;go_wp2_with fail;refine K7.out.mono ?_;rintro e w7 ⟨rfl,hd,ha,p7a,p7b⟩;have DR7:=Lib.hid hd;have AP7:=Lib.hid (AP6.out.trans ha);clear hd ha K7 DR6 AP6;rw[Fd.webE_is] at HC;simp only at HC;have BL7:=Lib.hid (BL0.out.trans (AP7.out.below BL0.out.size (fun k q e=>by have e:k=w.heap.size:=e;omega)));have k0:w7.cell? ⟨w.heap.size,0,none⟩=some (.string (st b7.s)):=Blk.cell DR7.out 0;have f0:w7.frozen? ⟨w.heap.size,0,none⟩=false:=Blk.frozen DR7.out 0
 by_cases hz:b7.s=[90]
 ·have e1:(b7.s == [90])=true:=beq_iff_eq.2 hz
  rw[if_pos hz] at HC;clear hz;have DZ:Hid (DrS (w7.setCell ⟨w.heap.size,0,none⟩ (.string (st []))) w.heap.size ⟨[],b7.short⟩):=Blk.set_ DR7.out 0 _;have BZ:=Lib.hid (BL7.out.setCell (p:=⟨w.heap.size,0,none⟩) (Nat.le_refl _) (.string (st [])));have KT:=Lib.hid (q5l a1 a3 a5 a7 0 p1a p1b p3a p3b p5a p5b p7a p7b (by decide) (by decide) ⟨[],b7.short⟩ w.heap.size _ DZ.out);go_wp2_with fail;refine KT.out.mono ?_;rintro e w8 ⟨rfl,hb8⟩;have B8:=Lib.hid (BZ.out.trans (hb8.mono BZ.out.size));clear hb8 KT;go_wp2_with fail;go_ret2;exact⟨by rw[HC.out];rfl,B8.out⟩
 ·have e1:(b7.s == [90])=false:=beq_eq_false_iff_ne.2 hz
  rw[if_neg hz] at HC;clear hz;have K8:=Lib.hid (q5m b7 w.heap.size w7 DR7.out);generalize Fd.z2y [58] b7=x8 at K8 HC;obtain⟨a8,b8⟩:=x8;simp only at K8 HC;go_wp2_with fail;refine K8.out.mono ?_;rintro e w8 ⟨rfl,hd,ha,p8a,p8b⟩;have DR8:=Lib.hid hd;have BL8:=Lib.hid (BL7.out.trans (ha.below BL7.out.size (fun k q e=>by have e:k=w.heap.size:=e;omega)));clear hd ha K8;have KT:=Lib.hid (q5l a1 a3 a5 a7 a8 p1a p1b p3a p3b p5a p5b p7a p7b p8a p8b b8 w.heap.size w8 DR8.out);go_wp2_with fail;refine KT.out.mono ?_;rintro e w9 ⟨rfl,hb9⟩;have B9:=Lib.hid (BL8.out.trans (hb9.mono BL8.out.size));clear hb9 KT;go_wp2_with fail;go_ret2;exact⟨by rw[HC.out];rfl,B9.out⟩
end Go.Proofs.YtjonkbdldebkiaaGreatDoor
namespace Fd
theorem mailF_is (b:Dr) (many:Nat):mailF b many=mailE (Z8 4 9999 (Y6 [32] (z5a (Y6 [32] (Z8 many 99 b).2).2).2).2) (z5a (Y6 [32] (Z8 many 99 b).2).2) (Z8 many 99 b) (z4f (Y6 [32] (Z8 4 9999 (Y6 [32] (z5a (Y6 [32] (Z8 many 99 b).2).2).2).2).2).2) (Y6 [32] (z4f (Y6 [32] (Z8 4 9999 (Y6 [32] (z5a (Y6 [32] (Z8 many 99 b).2).2).2).2).2).2).2).2:=rfl
theorem mailE_is (y m d c:Int × Dr) (z:Dr):mailE y m d c z=if z.s=[71,77,84]∨z.s=[85,84] then z7u y.1 m.1 d.1 c.1 0 ⟨[],z.short⟩ else z7u y.1 m.1 d.1 c.1 (z2y [] z).1 (z2y [] z).2:=rfl
theorem j9k (s:Bs):(q2s s).s.length≤s.length:=by
 cases s with
 | nil=>exact Nat.le_refl _
 | cons c t =>
  show (if z2h c then (Y6 [32] (Y6 [44] (z1r ⟨c :: t,false⟩).2).2).2 else (⟨c :: t,false⟩:Dr)).s.length≤_
  split
  ·exact Nat.le_trans (z7q _ _) (Nat.le_trans (z7q _ _) (y0k _))
  ·exact Nat.le_refl _
theorem many_or (b:Dr):manyD b=1∨manyD b=2:=by
 obtain⟨s,sh⟩:=b
 match s with
 | []=>exact .inl rfl
 | [_]=>exact .inl rfl
 | _ :: c :: _ =>
  show (if c=32 then 1 else 2)=1∨(if c=32 then 1 else 2)=2
  split
  ·exact .inl rfl
  ·exact .inr rfl
end Fd
namespace Go.Proofs.YtjonkbdldebkiaaGreatDoor
open Go.RowKit
theorem dt_Mail (s:List UInt8) (w:World) (hs:s.length≤1000000) :
  Calls Tryz.prog 60 #[.string (st s)] w fun e w'=>e=.returned (.tuple #[.int .i64 (Fd.q7z s).1,.int .i64 (Fd.q7z s).2])∧Below w.heap.size w w':=by
 have hst:∀ l:List UInt8,(st l).toList=l:=fun l=>Lib.toList_data _
 have HC:=Lib.hid (Fd.mail_is s);have hbl:=Fd.j9k s;have hmn:=Fd.many_or (Fd.q2s s);have H0:Hid (Fd.q2s s=Fd.q2s s):=rfl;generalize Fd.q7z s=out at HC ⊢;have DR0:Hid (DrS (w.alloc (.cells #[.string (st s),.bool false] 160)) w.heap.size ⟨s,false⟩):=Blk.new w 160 #[.string (st s),.bool false];have BL0:=Lib.hid ((Below.refl w.heap.size w).alloc (Nat.le_refl _) (.cells #[.string (st s),.bool false] 160));have HML:Hid (∀ b0,Fd.q2s s=b0→b0.s.length≤1000000):=fun b0 e=>by rw[← e];omega
 go_enter Tryz.func60,Tryz.ntmps60;go_upto_region 2 with fail;generalize (w.alloc (.cells #[.string (st s),.bool false] 160))=w0 at DR0 BL0 ⊢
 go_cut [20] (fun b wx=>b=.bool (match s with | []=>false | c :: _=>Fd.z2h c)∧w0=wx)
 case first =>
  cases s with
  | nil =>
   go_wp2_with fail;go_meet
   case rel=>exact⟨rfl,rfl⟩
  | cons c t =>
   have hS0:0 < (st (c :: t)).size:=by rw[y9];simp
   have hget:∀ q:0 < (st (c :: t)).size,(st (c :: t))[0]'q=c:=fun _=>rfl
   have HL:=Lib.hid (q7g c w0);go_wp2_with fail;refine HL.out.mono ?_;rintro e wx ⟨rfl,hwx⟩;subst wx;go_wp2_with fail;go_meet
   case rel=>exact⟨rfl,rfl⟩
 case rest =>
 as_aux_lemma =>
 obtain⟨rfl,hwx⟩:=hcut;subst hwx;go_upto_if 20 with fail
 go_cut [] (fun wx=>Hid (DrS wx w.heap.size (Fd.q2s s))∧Hid (Below w.heap.size w wx))
 case first =>
  cases s with
  | nil =>
   go_wp2_with fail;go_meet
   case rel=>exact⟨DR0,BL0⟩
  | cons c t =>
   have HE:Hid (Fd.q2s (c :: t)=if Fd.z2h c then (Fd.Y6 [32] (Fd.Y6 [44] (Fd.z1r ⟨c :: t,false⟩).2).2).2 else ⟨c :: t,false⟩):=rfl;obtain⟨b,hb⟩:∃ b,Fd.z2h c=b:=⟨_,rfl⟩;rw[hb] at HE;simp only [hb];clear hb
   cases b with
   | false =>
    go_wp2_with fail;go_meet
    case rel=>exact⟨by rw[HE.out];exact DR0,BL0⟩
   | true =>
    have K1:=Lib.hid (j1m ⟨c :: t,false⟩ w.heap.size w0 DR0.out hs);generalize Fd.z1r ⟨c :: t,false⟩=x1 at K1 HE;go_wp2_with fail;refine K1.out.mono ?_;rintro e w1 ⟨rfl,hd,ha⟩;have DR1:=Lib.hid hd;have BL1:=Lib.hid (BL0.out.trans (ha.below BL0.out.size (fun k q e=>by have e:k=w.heap.size:=e;omega)));clear hd ha K1;have K2:=Lib.hid (z1m [44] x1.2 w.heap.size w1 DR1.out (by decide));generalize Fd.Y6 [44] x1.2=x2 at K2 HE;go_wp2_with fail;refine K2.out.mono ?_;rintro e w2 ⟨rfl,hd,ha⟩;have DR2:=Lib.hid hd;have BL2:=Lib.hid (BL1.out.trans (ha.below BL1.out.size (fun k q e=>by have e:k=w.heap.size:=e;omega)));clear hd ha K2;have K3:=Lib.hid (z1m [32] x2.2 w.heap.size w2 DR2.out (by decide));go_wp2_with fail;refine K3.out.mono ?_;rintro e w3 ⟨rfl,hd,ha⟩;have DR3:Hid (DrS w3 w.heap.size (Fd.q2s (c :: t))):=by rw[HE.out];exact hd
    have BL3:=Lib.hid (BL2.out.trans (ha.below BL2.out.size (fun k q e=>by have e:k=w.heap.size:=e;omega)));clear hd ha K3;go_wp2_with fail;go_meet
    case rel=>exact⟨DR3,BL3⟩
 case rest =>
 as_aux_lemma =>
 obtain⟨DRA,BLA⟩:=hcut;obtain⟨wa,hwa⟩:∃ y,y=wc:=⟨_,rfl⟩;subst hwa;clear DR0 BL0 H0;have HM1:=Lib.hid (HML.out _ rfl);generalize Fd.q2s s=b0 at HC DRA HM1 hmn;clear HML hbl;obtain⟨mm,hmm⟩:∃ m,Fd.manyD b0=m:=⟨_,rfl⟩;have HMM:=Lib.hid hmm;rw[hmm] at HC hmn;clear hmm;obtain⟨s0,sh0⟩:=b0;have k0:wa.cell? ⟨w.heap.size,0,none⟩=some (.string (st s0)):=Blk.cell DRA.out 0;go_upto_region 7 with fail
 go_cut [40] (fun b wx=>b=.bool (decide (mm=2))∧wa=wx)
 case first =>
  cases s0 with
  | nil =>
   have HB:Hid (decide (mm=2)=false):=by show _=_;rw[← HMM.out];rfl
   go_wp2_with fail;go_meet
   case rel=>exact⟨by rw[HB.out],rfl⟩
  | cons c1 t1 =>
   cases t1 with
   | nil =>
    have HB:Hid (decide (mm=2)=false):=by show _=_;rw[← HMM.out];rfl
    have hz:(st [c1]).size=1:=rfl;go_wp2_with fail;go_meet
    case rel=>exact⟨by rw[HB.out],rfl⟩
   | cons c2 t2 =>
    have hS1:1 < (st (c1 :: c2 :: t2)).size:=by rw[y9];simp
    have hget:∀ q:1 < (st (c1 :: c2 :: t2)).size,(st (c1 :: c2 :: t2))[1]'q=c2:=fun _=>rfl
    by_cases h32:c2=32
    ·have HB:Hid (decide (mm=2)=false):=by show _=_;rw[← HMM.out,h32];rfl
     have e1:((c2.toNat:Int) == 32)=true:=by rw[h32];rfl
     clear h32;go_wp2_with fail;go_meet
     case rel=>exact⟨by rw[HB.out];first | rfl | (rw[bne,e1];rfl),rfl⟩
    ·have HB:Hid (decide (mm=2)=true):=decide_eq_true (HMM.out.symm.trans (by show (if c2=32 then 1 else 2)=2;rw[if_neg h32]))
     have e1:((c2.toNat:Int) == 32)=false:=by rw[beq_eq_false_iff_ne];intro q;exact h32 (UInt8.toNat_inj.1 (by show c2.toNat=32;omega))
     clear h32;go_wp2_with fail;go_meet
     case rel=>exact⟨by rw[HB.out];first | rfl | (rw[bne,e1];rfl),rfl⟩
 case rest =>
 as_aux_lemma =>
 obtain⟨rfl,hwx⟩:=hcut;subst hwx;go_upto_if 40 with fail
 go_cut [5] (fun v wx=>v=.int .i64 (mm:Nat)∧wa=wx)
 case first =>
  have HN:=Lib.hid hmn
  rcases HN.out with e | e
  ·subst e
   go_wp2_with fail;go_meet
   case rel=>exact⟨rfl,rfl⟩
  ·subst e
   go_wp2_with fail;go_meet
   case rel=>exact⟨rfl,rfl⟩
 case rest =>
 as_aux_lemma =>
 obtain⟨rfl,hwx⟩:=hcut;subst hwx;have hm4:mm≤4:=by omega
 rw[Fd.mailF_is] at HC;clear k0 hmn HMM;have AP0:Hid (Ap (fun b=>b=w.heap.size) wa wa):=Ap.refl _ _;have DR0:=DRA;have HL1:=Lib.hid (Nat.le_trans (Fd.j4i mm 99 ⟨s0,sh0⟩) HM1.out);have K1:=Lib.hid (z1b mm 99 ⟨s0,sh0⟩ w.heap.size wa DR0.out hm4);generalize Fd.Z8 mm 99 ⟨s0,sh0⟩=x1 at K1 HC HL1;obtain⟨a1,b1⟩:=x1;simp only at K1 HC HL1;go_wp2_with fail;refine K1.out.mono ?_;rintro e w1 ⟨rfl,hd,ha,p1a,p1b⟩;have DR1:=Lib.hid hd;have AP1:=Lib.hid (AP0.out.trans ha);clear hd ha K1 DR0 AP0;have HL2:=Lib.hid (Nat.le_trans (Fd.z7q [32] b1) HL1.out);have K2:=Lib.hid (z1m [32] b1 w.heap.size w1 DR1.out (by decide));generalize Fd.Y6 [32] b1=x2 at K2 HC HL2;obtain⟨g2,b2⟩:=x2;simp only at K2 HC HL2;go_wp2_with fail;refine K2.out.mono ?_;rintro e w2 ⟨rfl,hd,ha⟩;have DR2:=Lib.hid hd;have AP2:=Lib.hid (AP1.out.trans ha);clear hd ha K2 DR1 AP1;have K3:=Lib.hid (dr_month b2 w.heap.size w2 DR2.out HL2.out);generalize Fd.z5a b2=x3 at K3 HC;obtain⟨a3,b3⟩:=x3;simp only at K3 HC;go_wp2_with fail;refine K3.out.mono ?_;rintro e w3 ⟨rfl,hd,ha,p3a,p3b⟩;have DR3:=Lib.hid hd;have AP3:=Lib.hid (AP2.out.trans ha);clear hd ha K3 DR2 AP2;have K4:=Lib.hid (z1m [32] b3 w.heap.size w3 DR3.out (by decide));generalize Fd.Y6 [32] b3=x4 at K4 HC;obtain⟨g4,b4⟩:=x4;simp only at K4 HC;go_wp2_with fail;refine K4.out.mono ?_;rintro e w4 ⟨rfl,hd,ha⟩;have DR4:=Lib.hid hd;have AP4:=Lib.hid (AP3.out.trans ha);clear hd ha K4 DR3 AP3;have K5:=Lib.hid (z1b 4 9999 b4 w.heap.size w4 DR4.out (by decide));generalize Fd.Z8 4 9999 b4=x5 at K5 HC;obtain⟨a5,b5⟩:=x5;simp only at K5 HC;go_wp2_with fail;refine K5.out.mono ?_;rintro e w5 ⟨rfl,hd,ha,p5a,p5b⟩;have DR5:=Lib.hid hd;have AP5:=Lib.hid (AP4.out.trans ha);clear hd ha K5 DR4 AP4;have K6:=Lib.hid (z1m [32] b5 w.heap.size w5 DR5.out (by decide));generalize Fd.Y6 [32] b5=x6 at K6 HC;obtain⟨g6,b6⟩:=x6;simp only at K6 HC;go_wp2_with fail;refine K6.out.mono ?_;rintro e w6 ⟨rfl,hd,ha⟩;have DR6:=Lib.hid hd;have AP6:=Lib.hid (AP5.out.trans ha);clear hd ha K6 DR5 AP5;have K7:=Lib.hid (j1l b6 w.heap.size w6 DR6.out);generalize Fd.z4f b6=x7 at K7 HC;obtain⟨a7,b7⟩:=x7;simp only at K7 HC;go_wp2_with fail;refine K7.out.mono ?_;rintro e w7 ⟨rfl,hd,ha,p7a,p7b⟩;have DR7:=Lib.hid hd;have AP7:=Lib.hid (AP6.out.trans ha);clear hd ha K7 DR6 AP6;have K8:=Lib.hid (z1m [32] b7 w.heap.size w7 DR7.out (by decide));generalize Fd.Y6 [32] b7=x8 at K8 HC;obtain⟨g8,b8⟩:=x8;simp only at K8 HC;go_wp2_with fail;refine K8.out.mono ?_;rintro e w8 ⟨rfl,hd,ha⟩;have DR8:=Lib.hid hd;have AP8:=Lib.hid (AP7.out.trans ha);clear hd ha K8 DR7 AP7;rw[Fd.mailE_is] at HC;simp only at HC;have BL8:=Lib.hid (BLA.out.trans (AP8.out.below BLA.out.size (fun k q e=>by have e:k=w.heap.size:=e;omega)));have k0:w8.cell? ⟨w.heap.size,0,none⟩=some (.string (st b8.s)):=Blk.cell DR8.out 0;have f0:w8.frozen? ⟨w.heap.size,0,none⟩=false:=Blk.frozen DR8.out 0;obtain⟨s8,sh8⟩:=b8;simp only at HC k0;go_upto_region 17 with fail
 go_cut [69] (fun b wx=>b=.bool (decide (s8=[71,77,84]∨s8=[85,84]))∧w8=wx)
 case first =>
  by_cases h1:s8=[71,77,84]
  ·have HB:Hid (decide (s8=[71,77,84]∨s8=[85,84])=true):=decide_eq_true (.inl h1)
   have e1:(s8 == [71,77,84])=true:=beq_iff_eq.2 h1;clear h1;go_wp2_with fail;go_meet
   case rel=>exact⟨by rw[HB.out],rfl⟩
  ·have e1:(s8 == [71,77,84])=false:=beq_eq_false_iff_ne.2 h1
   by_cases h2:s8=[85,84]
   ·have HB:Hid (decide (s8=[71,77,84]∨s8=[85,84])=true):=decide_eq_true (.inr h2)
    have e2:(s8 == [85,84])=true:=beq_iff_eq.2 h2;clear h1 h2;go_wp2_with fail;go_meet
    case rel=>exact⟨by rw[HB.out],rfl⟩
   ·have HB:Hid (decide (s8=[71,77,84]∨s8=[85,84])=false):=decide_eq_false (by rintro (q | q);exact h1 q;exact h2 q)
    have e2:(s8 == [85,84])=false:=beq_eq_false_iff_ne.2 h2;clear h1 h2;go_wp2_with fail;go_meet
    case rel=>exact⟨by rw[HB.out],rfl⟩
 case rest =>
 as_aux_lemma =>
 obtain⟨rfl,hwx⟩:=hcut;subst hwx
 by_cases hz:s8=[71,77,84]∨s8=[85,84]
 ·rw[if_pos hz] at HC
  rw[decide_eq_true hz];clear hz;have DZ:Hid (DrS (w8.setCell ⟨w.heap.size,0,none⟩ (.string (st []))) w.heap.size ⟨[],sh8⟩):=Blk.set_ DR8.out 0 _;have BZ:=Lib.hid (BL8.out.setCell (p:=⟨w.heap.size,0,none⟩) (Nat.le_refl _) (.string (st [])));have KT:=Lib.hid (q5l a5 a3 a1 a7 0 p5a p5b p3a (by omega) p1a p1b p7a p7b (by decide) (by decide) ⟨[],sh8⟩ w.heap.size _ DZ.out);go_wp2_with fail;refine KT.out.mono ?_;rintro e w9 ⟨rfl,hb9⟩;have B9:=Lib.hid (BZ.out.trans (hb9.mono BZ.out.size));clear hb9 KT;go_wp2_with fail;go_ret2;exact⟨by rw[HC.out];rfl,B9.out⟩
 ·rw[if_neg hz] at HC
  rw[decide_eq_false hz];clear hz;have K9:=Lib.hid (q7f ⟨s8,sh8⟩ w.heap.size w8 DR8.out);generalize Fd.z2y [] ⟨s8,sh8⟩=x9 at K9 HC;obtain⟨a9,b9⟩:=x9;simp only at K9 HC;go_wp2_with fail;refine K9.out.mono ?_;rintro e w9 ⟨rfl,hd,ha,p9a,p9b⟩;have DR9:=Lib.hid hd;have BL9:=Lib.hid (BL8.out.trans (ha.below BL8.out.size (fun k q e=>by have e:k=w.heap.size:=e;omega)));clear hd ha K9;have KT:=Lib.hid (q5l a5 a3 a1 a7 a9 p5a p5b p3a (by omega) p1a p1b p7a p7b p9a p9b b9 w.heap.size w9 DR9.out);go_wp2_with fail;refine KT.out.mono ?_;rintro e w10 ⟨rfl,hb10⟩;have B10:=Lib.hid (BL9.out.trans (hb10.mono BL9.out.size));clear hb10 KT;go_wp2_with fail;go_ret2;exact⟨by rw[HC.out];rfl,B10.out⟩
end Go.Proofs.YtjonkbdldebkiaaGreatDoor
namespace Fd
theorem j6p (c:UInt8):z2v c=true↔((c.toNat:Int)=9∨(c.toNat:Int)=10∨(c.toNat:Int)=13∨(c.toNat:Int)=32):=Mg.z0i (fun c=>z2v c=true↔((c.toNat:Int)=9∨(c.toNat:Int)=10∨(c.toNat:Int)=13∨(c.toNat:Int)=32)) (by decide +kernel) c
def t1B (c:UInt8):Bool:=(97≤c && c≤122) || (65≤c && c≤90) || c == 95
def t2B (c:UInt8):Bool:=(48≤c && c≤57) || c == 45 || c == 46 || c == 58
theorem y0l (f:Bool) (c:UInt8):z1y f c=(t1B c || (!f && t2B c)):=rfl
theorem t1_iff (c:UInt8):t1B c=true↔((97≤(c.toNat:Int)∧(c.toNat:Int)≤122)∨(65≤(c.toNat:Int)∧(c.toNat:Int)≤90)∨(c.toNat:Int)=95):=Mg.z0i (fun c=>t1B c=true↔((97≤(c.toNat:Int)∧(c.toNat:Int)≤122)∨(65≤(c.toNat:Int)∧(c.toNat:Int)≤90)∨(c.toNat:Int)=95)) (by decide +kernel) c
theorem t2_iff (c:UInt8):t2B c=true↔((48≤(c.toNat:Int)∧(c.toNat:Int)≤57)∨(c.toNat:Int)=45∨(c.toNat:Int)=46∨(c.toNat:Int)=58):=Mg.z0i (fun c=>t2B c=true↔((48≤(c.toNat:Int)∧(c.toNat:Int)≤57)∨(c.toNat:Int)=45∨(c.toNat:Int)=46∨(c.toNat:Int)=58)) (by decide +kernel) c
theorem q6n (s:Bs) (k:Nat) (h:k < s.length):z3i (decide (k=0)) (s.drop k)=(z1y (decide (k=0)) s[k] && z3i (decide (k + 1=0)) (s.drop (k + 1))):=by
 rw[List.drop_eq_getElem_cons h];rfl
end Fd
namespace Go.Proofs.YtjonkbdldebkiaaGreatDoor
open Go.RowKit
theorem q6x (c:UInt8) (w:World) :
  Calls Tryz.prog 226 #[.int .u8 c.toNat] w fun e w'=>e=.returned (.bool (Fd.z2v c))∧w'=w:=by
 have hb:(c.toNat:Int)≤255:=by have:=c.toNat_lt;omega
 go_enter Tryz.func226,Tryz.ntmps226;go_wp2_with fail
 all_goals (go_ret;refine⟨Z7 ?_,rfl⟩;rw[Bool.eq_iff_iff,Fd.j6p];simp;try omega)
theorem z4k (c:UInt8) (f:Bool) (w:World) :
  Calls Tryz.prog 218 #[.int .u8 c.toNat,.bool f] w fun e w'=>e=.returned (.bool (Fd.z1y f c))∧w'=w:=by
 have HL:=Lib.hid (Fd.y0l f c);have hb9:(c.toNat:Int)≤255:=by have:=c.toNat_lt;omega
 generalize Fd.z1y f c=out at HL ⊢;have walk:∀ b:Bool,Fd.t1B c=b →
   Calls Tryz.prog 218 #[.int .u8 c.toNat,.bool f] w fun e w'=>e=.returned (.bool out)∧w'=w:=by
  intro b hb;rw[hb] at HL;have HB:=Lib.hid hb;clear hb;go_enter Tryz.func218,Tryz.ntmps218;go_upto_region 1 with fail
  go_cut [22] (fun v wx=>v=.bool b∧w=wx)
  case first =>
   go_wp2_with fail
   all_goals
    go_meet
    case rel=>exact⟨by rw[← HB.out];congr 1;rw[Bool.eq_iff_iff,Fd.t1_iff];simp;try omega,rfl⟩
  case rest =>
  as_aux_lemma =>
  obtain⟨rfl,hwx⟩:=hcut;subst hwx
  cases b with
  | true =>
   have HE:Hid (out=true):=by show _=_;rw[HL.out];rfl
   go_wp2_with fail;go_ret;exact⟨Z7 HE.out.symm,rfl⟩
  | false =>
   cases f with
   | true =>
    have HE:Hid (out=false):=by show _=_;rw[HL.out];rfl
    go_wp2_with fail;go_ret;exact⟨Z7 HE.out.symm,rfl⟩
   | false =>
    go_wp2_with fail
    all_goals (go_ret;refine⟨Z7 ?_,rfl⟩;rw[HL.out,Bool.not_false,Bool.true_and,Bool.false_or,Bool.eq_iff_iff,Fd.t2_iff];simp;try omega)
 exact walk _ rfl
theorem j2x (s:List UInt8) (w:World) (hs:s.length≤2000000) :
  Calls Tryz.prog 167 #[.string (st s)] w fun e w'=>e=.returned (.bool (Fd.z03 s))∧w'=w:=by
 have hst:∀ l:List UInt8,(st l).toList=l:=fun l=>Lib.toList_data _
 have HT:Hid (Fd.z03 s=(Fd.z3i true s && decide (s ≠ []) && decide (s.length≤20))):=rfl;have hz:(st s).size=s.length:=y9 s;have HZ:=Lib.hid hz;clear hz;go_enter Tryz.func167,Tryz.ntmps167;go_wp2_with fail
 go_loopw [6] (fun i wr=>∃ k:Nat,k≤s.length∧i=.int .i64 k∧Hid (Fd.z3i true s=Fd.z3i (decide (k=0)) (s.drop k))∧Hid (w=wr)) (fun i _=>s.length - (intOf i).toNat)
 case atStart=>exact⟨0,Nat.zero_le _,rfl,rfl,by first | exact rfl | exact trivial⟩
 case round =>
  obtain⟨k,hk,rfl,HA,HW⟩:=hrel;have hw:=HW.out;clear HW;subst hw
  by_cases hlt:k < s.length
  ·have s1:k < (st s).size:=by rw[HZ.out];exact hlt
   have hget:∀ q:k < (st s).size,(st s)[k]'q=s[k]:=fun _=>rfl
   have HDB:Hid (∀ b,Fd.z1y (decide (k=0)) s[k]=b→Fd.z3i (decide (k=0)) (s.drop k)=(b && Fd.z3i (decide (k + 1=0)) (s.drop (k + 1)))):=fun b h=>by rw[Fd.q6n s k hlt];exact congrArg (fun z=>z && _) h
   have HTB:=Lib.hid (z4k s[k] (decide (k=0)) w);have hk0:((k:Int) == 0)=decide (k=0):=by
    rw[Bool.eq_iff_iff,beq_iff_eq,decide_eq_true_iff];omega
   obtain⟨b,hb⟩:∃ b,Fd.z1y (decide (k=0)) s[k]=b:=⟨_,rfl⟩;rw[hb] at HTB;have HD:=Lib.hid (HDB.out b hb);clear hb HDB;go_wp2_with fail;refine HTB.out.mono ?_;rintro e w1 ⟨rfl,hw1⟩;subst w1
   cases b with
   | true =>
    go_wp2_with fail;go_roundw
    case rel=>exact⟨k + 1,by omega,by go_num,by show _=_;rw[HA.out,HD.out,Bool.true_and],by first | exact rfl | exact trivial⟩
    case measure=>simp[intOf];omega
   | false =>
    have HE:Hid (Fd.z03 s=false):=by show _=_;rw[HT.out,HA.out,HD.out];rfl
    go_wp2_with fail;go_ret;exact⟨Z7 HE.out.symm,rfl⟩
  ·have hke:k=s.length:=by omega
   have HE:Hid (Fd.z03 s=(decide (s ≠ []) && decide (s.length≤20))):=by
    show _=_;rw[HT.out,HA.out,hke,List.drop_length];rfl
   clear hke HA
   rcases z5y s with ⟨e1,e2⟩ | ⟨e1,e2⟩
   ·have HF:Hid (Fd.z03 s=false):=by show _=_;rw[HE.out,decide_eq_false (fun q=>q e1)];rfl
    clear e1;go_wp2_with fail;go_ret;exact⟨Z7 HF.out.symm,rfl⟩
   ·rw[decide_eq_true e1,Bool.true_and] at HE
    clear e1
    by_cases h20:s.length≤20
    ·have s2:¬ 20 < (st s).size:=by rw[HZ.out];omega
     have s3:((st s).size:Int)≤20:=by rw[HZ.out];omega
     rw[decide_eq_true h20] at HE;go_wp2_with fail;go_ret;exact⟨Z7 (by rw[HE.out]),rfl⟩
    ·have s3:¬ ((st s).size:Int)≤20:=by rw[HZ.out];omega
     rw[decide_eq_false h20] at HE;go_wp2_with fail;go_ret;exact⟨Z7 (by rw[HE.out]),rfl⟩
end Go.Proofs.YtjonkbdldebkiaaGreatDoor
namespace Fd
open Mk
theorem z2m:∀ f:Fo,(z0z f).length≤f.bulk
 | .nil=>Nat.le_refl _
 | .node n a t k r=>by
  have h1:=z2m k;have h2:=z2m r;have e:Fo.bulk (.node n a t k r)=1 + n.length + t.length + Fo.atB a + Fo.bulk k + Fo.bulk r:=rfl;rw[e];unfold z0z;rw[List.length_append,List.length_append];omega
theorem j0y (n:Bs) (a:List At) (t:Bs) (k r:Fo):z0z (.node n a t k r)=t++z0z k++z0z r:=rfl
def y0q (s:Bs):Bs:=(s.reverse.dropWhile z2v).reverse
theorem trimX_is (s:Bs):q8v s=y0q (X4 s):=rfl
theorem j5w (c:UInt8) (t:Bs):X4 (c :: t)=if z2v c then X4 t else c :: t:=by unfold X4;rw[List.dropWhile_cons]
theorem j6j (t:Bs) (c:UInt8):y0q (t++[c])=if z2v c then y0q t else t++[c]:=by
 unfold y0q;rw[List.reverse_append,List.reverse_singleton,List.singleton_append,List.dropWhile_cons]
 split
 ·rfl
 ·simp
end Fd
namespace Go.Proofs.YtjonkbdldebkiaaGreatDoor
open Go.RowKit
theorem fd_text (N:Nat):∀ (n:List UInt8) (a:List Mk.At) (t:List UInt8) (k:Mk.Fo),k.bulk < N→t.length + k.bulk≤33554432→∀ (va vk:Value) (K:Nat→Prop) (w:World),AtsV w K va a→FoV w K vk k→(∀ b,K b→b < w.heap.size) →
  Calls Tryz.prog 174 #[V4 n va t vk] w fun e w'=>e=.returned (.string (st (t++Fd.z0z k)))∧Below w.heap.size w w':=by
 induction N with
 | zero=>intro n a t k h;omega
 | succ N ih =>
  intro n a t k hN hl va vk K w hva hvk hK;have HIH:=Lib.hid ih;clear ih;obtain⟨g,o,cap,hv1,hlen,hat⟩:=hvk.at_
  have HAT:=Lib.hid hat
  obtain⟨aoa,capa,hva1,_⟩:=id hva;subst hva1;have hfl:=Mk.Fo.z0k k;have htb:=Fd.z2m k;unfold V4
  rcases hv1 with ⟨hv1,hKg⟩ | ⟨ao,hv1,hnil⟩
  ·have hgl:=hK g hKg
   subst hv1;have hal:=(Below.refl w.heap.size w).alloc (Nat.le_refl _) (.cells #[.string (st n),.slice aoa a.length capa,.string (st t),.slice (some ⟨g,o,none⟩) k.len cap] 53);have AL:=Lib.hid hal;have PB:=Lib.hid (Blk.new w 53 #[.string (st n),.slice aoa a.length capa,.string (st t),.slice (some ⟨g,o,none⟩) k.len cap]);clear hal hva hvk hat
   go_enter Tryz.func174,Tryz.ntmps174;go_upto_region 1 with fail;generalize w.alloc (.cells #[.string (st n),.slice aoa a.length capa,.string (st t),.slice (some ⟨g,o,none⟩) k.len cap] 53)=w1 at AL PB ⊢;have p2:w1.cell? ⟨w.heap.size,2,none⟩=some (.string (st t)):=Blk.cell PB.out 2;have p3:w1.cell? ⟨w.heap.size,3,none⟩=some (.slice (some ⟨g,o,none⟩) k.len cap):=Blk.cell PB.out 3;clear PB;go_wp2_with fail;clear p2 p3
   go_loopw [3,11] (fun x i wr=>∃ (j:Nat) (cur:List UInt8),j≤k.len∧i=.int .i64 j∧x=.string (st cur)∧cur.length + (k.drop j).bulk≤33554432∧Hid (t++Fd.z0z k=cur++Fd.z0z (k.drop j))∧Hid (Below w.heap.size w wr)) (fun _ i _=>k.len - (intOf i).toNat)
   case atStart=>exact⟨0,t,Nat.zero_le _,rfl,rfl,by rw[Mk.Fo.drop_zero];exact hl,by show _=_;rw[Mk.Fo.drop_zero],AL⟩
   case round =>
    obtain⟨j,cur,hj,rfl,rfl,hcl,HA,BL⟩:=hrel
    by_cases hlt:j < k.len
    ·obtain⟨n',a',t',kk,r,hd,hd1⟩:=Mk.Fo.z3a k j hlt
     obtain⟨va',vk',c0,c1,c2,c3,hva',hvk'⟩:=HAT.out j n' a' t' kk r hd;rw[← BL.out.cell (p:=⟨g,_,none⟩) hgl] at c0 c1 c2 c3;obtain⟨aoa',capa',hva1',_⟩:=id hva';obtain⟨aok',capk',xsk',hvk1',_⟩:=id hvk';subst hva1';subst hvk1';have hdb:(k.drop j).bulk=1 + n'.length + t'.length + Mk.Fo.atB a' + kk.bulk + r.bulk:=by rw[hd];rfl
     have hdb2:=Mk.Fo.z0s k j;have htk:=Fd.z2m kk;have hal1:=(Below.refl wr.heap.size wr).alloc (Nat.le_refl _) (.cells #[.string (st n'),.slice aoa' a'.length capa',.string (st t'),.slice aok' kk.len capk'] 53);have BL1:=Lib.hid (BL.out.trans (hal1.mono BL.out.size));have QB:=Lib.hid (Blk.new wr 53 #[.string (st n'),.slice aoa' a'.length capa',.string (st t'),.slice aok' kk.len capk']);have HC:=Lib.hid (HIH.out n' a' t' kk (by omega) (by omega) _ _ K (wr.alloc (.cells #[.string (st n'),.slice aoa' a'.length capa',.string (st t'),.slice aok' kk.len capk'] 53)) (hva'.below hK BL1.out) (hvk'.below hK BL1.out) (fun b hb=>Nat.lt_of_lt_of_le (hK b hb) BL1.out.size));have HN:Hid (t++Fd.z0z k=(cur++(t'++Fd.z0z kk))++Fd.z0z (k.drop (j + 1))):=by show _=_;rw[HA.out,hd,hd1,Fd.j0y];simp only [List.append_assoc]
     have hcl2:(cur++(t'++Fd.z0z kk)).length + (k.drop (j + 1)).bulk≤33554432:=by rw[hd1,List.length_append,List.length_append];omega
     have hji:(j:Int) < k.len:=by omega
     unfold V4 at HC;clear HA hd hd1 hva' hvk' hal1;go_upto_region 5 with fail;generalize wr.alloc (.cells #[.string (st n'),.slice aoa' a'.length capa',.string (st t'),.slice aok' kk.len capk'] 53)=w2 at BL1 QB HC ⊢;have q0:w2.cell? ⟨wr.heap.size,0,none⟩=some (.string (st n')):=Blk.cell QB.out 0;have q1:w2.cell? ⟨wr.heap.size,1,none⟩=some (.slice aoa' a'.length capa'):=Blk.cell QB.out 1;have q2:w2.cell? ⟨wr.heap.size,2,none⟩=some (.string (st t')):=Blk.cell QB.out 2;have q3:w2.cell? ⟨wr.heap.size,3,none⟩=some (.slice aok' kk.len capk'):=Blk.cell QB.out 3;clear c0 c1 c2 c3;have hsum:¬ 9223372036854775807 < (st cur).size + (st (t'++Fd.z0z kk)).size:=by rw[y9,y9,List.length_append];omega
     go_wp2_with fail;refine HC.out.mono ?_;rintro e w3 ⟨rfl,hb3⟩;have BL3:=Lib.hid (BL1.out.trans (hb3.mono BL1.out.size));clear hb3 HC q0 q1 q2 q3;go_wp2_with fail;rw[show st cur++st (t'++Fd.z0z kk)=st (cur++(t'++Fd.z0z kk)) from z3n (st cur) (st (t'++Fd.z0z kk))];go_roundw
     case rel=>exact⟨j + 1,_,by omega,by go_num,rfl,hcl2,HN,BL3⟩
     case measure=>simp[intOf];omega
    ·have hje:j=k.len:=by omega
     have HE:Hid (t++Fd.z0z k=cur):=by show _=_;rw[HA.out,hje,Mk.Fo.z2q];exact List.append_nil _
     have hji:¬ (j:Int) < k.len:=by omega
     clear HA hje;go_wp2_with fail;go_ret;exact⟨by (rw[HE.out]) <;> rfl,BL.out⟩
  ·subst hnil
   subst hv1;have hal:=(Below.refl w.heap.size w).alloc (Nat.le_refl _) (.cells #[.string (st n),.slice aoa a.length capa,.string (st t),.slice ao 0 cap] 53);have HE:Hid (t++Fd.z0z .nil=t):=List.append_nil _;clear HAT hvk hva hat
   go_enter Tryz.func174,Tryz.ntmps174;go_wp2_with fail
   go_loopw [3,11] (fun x i wr=>x=.string (st t)∧i=.int .i64 0∧Hid (Below w.heap.size w wr)) (fun _ _ _=>0)
   case atStart=>exact⟨rfl,rfl,hal⟩
   case round =>
    obtain⟨rfl,rfl,BL⟩:=hrel;go_wp2_with fail;go_ret;exact⟨by (rw[HE.out]) <;> rfl,BL.out⟩
theorem q7n (c:UInt8) (t:List UInt8):(st (c :: t)).extract 1 (st (c :: t)).size=st t:=by
 rw[Z9,z0y,y9];simp
theorem q7m (t:List UInt8) (c:UInt8):(st (t++[c])).extract 0 t.length=st t:=by
 rw[Z9,z0y];simp
theorem fd_trim (s:List UInt8) (w:World) (hs:s.length≤1099511627776) :
  Calls Tryz.prog 173 #[.string (st s)] w fun e w'=>e=.returned (.string (st (Fd.q8v s)))∧w'=w:=by
 have hst:∀ l:List UInt8,(st l).toList=l:=fun l=>Lib.toList_data _
 have HT:=Lib.hid (Fd.trimX_is s);generalize Fd.q8v s=out at HT ⊢;go_enter Tryz.func173,Tryz.ntmps173
 go_upto_block 0 with fail
 go_cut [0] (fun x wx=>x=.string (st (Fd.X4 s))∧w=wx)
 case first =>
  as_aux_lemma =>
  go_wp2_with fail
  go_loopg [0] s.length (fun g x wr=>∃ u:List UInt8,x=.string (st u)∧u.length≤g∧u.length≤s.length∧Hid (Fd.X4 s=Fd.X4 u)∧Hid (w=wr))
  case atStart=>exact⟨s,rfl,Nat.le_refl _,Nat.le_refl _,rfl,rfl⟩
  case round =>
   obtain⟨u,rfl,hg,hul,HA,HW⟩:=hrel;have hw:=HW.out;clear HW;subst hw
   cases u with
   | nil =>
    have HE:Hid (Fd.X4 s=[]):=by show _=_;rw[HA.out];rfl
    have hst0:(st ([]:List UInt8)).toList=[]:=Lib.toList_data _;clear HA;go_wp2_with fail;go_meet
    case rel=>exact⟨by rw[HE.out],rfl⟩
   | cons c t =>
    have s1:0 < (st (c :: t)).size:=by rw[y9];simp
    have s2:(1:Int)≤(st (c :: t)).size:=by omega
    have hget:∀ q:0 < (st (c :: t)).size,(st (c :: t))[0]'q=c:=fun _=>rfl
    have hx:=q7n c t;have HSK:=Lib.hid (Fd.j5w c t);have HWH:=Lib.hid (fun W=>q6x c W);obtain⟨b,hb⟩:∃ b,Fd.z2v c=b:=⟨_,rfl⟩;rw[hb] at HWH HSK;clear hb;have HX:=Lib.hid hx;clear hx
    cases b with
    | true =>
     have hgl:t.length + 1≤gk:=by simpa using hg
     have hul2:t.length + 1≤s.length:=by simpa using hul
     clear hg hul;obtain⟨g',rfl⟩:∃ g',gk=g' + 1:=⟨gk - 1,by omega⟩;go_wp2_with fail;refine(HWH.out _).mono ?_;rintro e w1 ⟨rfl,hw1⟩;subst w1;go_wp2_with fail;rw[HX.out]
     go_roundg g'
     case measure=>omega
     case rel=>exact⟨t,rfl,by omega,by omega,by show _=_;rw[HA.out,HSK.out];rfl,rfl⟩
    | false =>
     have HE:Hid (Fd.X4 s=c :: t):=by show _=_;rw[HA.out,HSK.out];rfl
     go_wp2_with fail;refine(HWH.out _).mono ?_;rintro e w1 ⟨rfl,hw1⟩;subst w1;go_wp2_with fail;go_meet
     case rel=>exact⟨by rw[HE.out],rfl⟩
 case rest =>
  as_aux_lemma =>
  obtain⟨rfl,hw⟩:=hcut;subst hw;have hl0:(Fd.X4 s).length≤1099511627776:=Nat.le_trans (List.dropWhile_suffix Fd.z2v (l:=s)).length_le hs;generalize Fd.X4 s=v at HT hl0 ⊢
  go_upto_block 2 with fail
  go_cut [0] (fun x wx=>x=.string (st out)∧w=wx)
  case first =>
   as_aux_lemma =>
   go_wp2_with fail
   go_loopg [0] v.length (fun g x wr=>∃ u:List UInt8,x=.string (st u)∧u.length≤g∧u.length≤v.length∧Hid (out=Fd.y0q u)∧Hid (w=wr))
   case atStart=>exact⟨v,rfl,Nat.le_refl _,Nat.le_refl _,HT,rfl⟩
   case round =>
    obtain⟨u,rfl,hg,hul,HA,HW⟩:=hrel;have hw:=HW.out;clear HW;subst hw
    rcases List.eq_nil_or_concat u with h0 | ⟨t,c,h0⟩
    ·subst h0
     have HE:Hid (out=[]):=by show _=_;rw[HA.out];rfl
     have hst0:(st ([]:List UInt8)).toList=[]:=Lib.toList_data _;clear HA;go_wp2_with fail;go_meet
     case rel=>exact⟨by rw[HE.out],rfl⟩
    ·rw[List.concat_eq_append] at h0
     subst h0;have hz:(st (t++[c])).size=t.length + 1:=by rw[y9];simp
     have s1:t.length < (st (t++[c])).size:=by omega
     have s2:(t.length:Int) < (st (t++[c])).size:=by omega
     have s3:((st (t++[c])).size:Int) - 1=t.length:=by omega
     have s4:(0:Int)≤(t.length:Int):=by omega
     have s5:(t.length:Int)≤(st (t++[c])).size:=by omega
     have hne:(t++[c] == ([]:List UInt8))=false:=by simp
     have hget:∀ q:t.length < (st (t++[c])).size,(st (t++[c]))[t.length]'q=c:=fun q=>by
      show (t++[c])[t.length]'(by simp)=c;simp
     have HX:=Lib.hid (q7m t c);have HSK:=Lib.hid (Fd.j6j t c);have HWH:=Lib.hid (fun W=>q6x c W);obtain⟨b,hb⟩:∃ b,Fd.z2v c=b:=⟨_,rfl⟩;rw[hb] at HWH HSK;have hgl:t.length + 1≤gk:=by simpa using hg
     have hul2:t.length + 1≤v.length:=by simpa using hul
     clear hb hz hg hul
     cases b with
     | true =>
      obtain⟨g',rfl⟩:∃ g',gk=g' + 1:=⟨gk - 1,by omega⟩;go_wp2_with fail;refine(HWH.out _).mono ?_;rintro e w1 ⟨rfl,hw1⟩;subst w1;go_wp2_with fail;rw[HX.out]
      go_roundg g'
      case measure=>omega
      case rel=>exact⟨t,rfl,by omega,by omega,by show _=_;rw[HA.out,HSK.out];rfl,rfl⟩
     | false =>
      have HE:Hid (out=t++[c]):=by show _=_;rw[HA.out,HSK.out];rfl
      go_wp2_with fail;refine(HWH.out _).mono ?_;rintro e w1 ⟨rfl,hw1⟩;subst w1;go_wp2_with fail;go_meet
      case rel=>exact⟨by rw[HE.out],rfl⟩
  case rest =>
   as_aux_lemma =>
   obtain⟨rfl,hw⟩:=hcut;subst hw;go_wp2_with fail;go_ret;exact⟨rfl,rfl⟩
theorem q6i (g:FuncId) (lb:Array Value) (q:Mk.At→Bool) (eg:∀ args w,(callFunc g args).run Tryz.prog w=.ok (.enter g args) w) (l:List Mk.At) (v:Value) (K:Nat→Prop) (w:World) (hv:AtsV w K v l) (hK:∀ b,K b→b < w.heap.size) (hl:l.length≤33554432) (hq:q70 g lb q l w) :
  Calls Tryz.prog 178 #[v,.func (.func g) #[] lb] w fun e w'=>Below w.heap.size w w'∧∃ i:Int,e=.returned (.int .i64 i)∧((i = -1∧l.find? q=none)∨∃ (j:Nat) (hj:j < l.length),i=(j:Int)∧l.find? q=some l[j]):=by
 obtain⟨b,o,cap,hKb,hv1,hcl⟩:=hv.at_
 have HQ:=Lib.hid hq;have HC:=Lib.hid hcl;clear hq hcl
 rcases hv1 with hv1 | ⟨ao,hv1,hl0⟩
 ·subst hv1
  go_enter Tryz.func178,Tryz.ntmps178;go_wp2_with fail
  go_loopw [8] (fun i wr=>∃ k:Nat,k≤l.length∧i=.int .i64 k∧Hid (l.find? q=(l.drop k).find? q)∧Hid (Below w.heap.size w wr)) (fun i _=>l.length - (intOf i).toNat)
  case atStart=>exact⟨0,Nat.zero_le _,rfl,rfl,Below.refl _ _⟩
  case round =>
   obtain⟨k,hk,rfl,HA,BL⟩:=hrel
   by_cases hlt:k < l.length
   ·have hb:b < w.heap.size:=hK b (hKb (by intro e;subst e;simp at hlt))
    obtain⟨c0,c1⟩:=HC.out k hlt;rw[← BL.out.cell (p:=⟨b,_,none⟩) hb] at c0 c1;have hcall:=HQ.out wr BL.out l[k] (List.getElem_mem _);have HD:Hid (l.find? q=if q l[k] then some l[k] else (l.drop (k + 1)).find? q):=by
     show _=_;rw[HA.out,List.drop_eq_getElem_cons hlt,List.find?_cons]
     cases q l[k] <;> rfl
    generalize q l[k]=bb at hcall HD;unfold atV at hcall;have HCALL:=Lib.hid hcall;clear hcall
    cases bb with
    | true =>
     go_wp2_with fail;refine HCALL.out.mono ?_;rintro e w1 ⟨rfl,hb1⟩;have BL1:=Lib.hid (BL.out.trans (hb1.mono BL.out.size));clear hb1;go_wp2_with fail;go_ret;exact⟨BL1.out,k,rfl,.inr ⟨k,hlt,rfl,by rw[HD.out];rfl⟩⟩
    | false =>
     go_wp2_with fail;refine HCALL.out.mono ?_;rintro e w1 ⟨rfl,hb1⟩;have BL1:=Lib.hid (BL.out.trans (hb1.mono BL.out.size));clear hb1;go_wp2_with fail;go_roundw
     case rel=>exact⟨k + 1,by omega,by go_num,by show _=_;rw[HD.out];rfl,BL1⟩
     case measure=>simp[intOf];omega
   ·have HN:Hid (l.find? q=none):=by show _=_;rw[HA.out,List.drop_of_length_le (by omega)];rfl
    clear HA;go_wp2_with fail;go_ret;exact⟨BL.out,-1,rfl,.inl ⟨rfl,HN.out⟩⟩
 ·subst hl0
  subst hv1;clear HC hK;go_enter Tryz.func178,Tryz.ntmps178;go_wp2_with fail
  go_loopw [8] (fun i wr=>i=.int .i64 0∧wr=w) (fun _ _=>0)
  case atStart=>exact⟨rfl,rfl⟩
  case round =>
   obtain⟨rfl,rfl⟩:=hrel;go_wp2_with fail;go_ret;exact⟨Below.refl _ _,-1,rfl,.inl ⟨rfl,rfl⟩⟩
theorem j3h (P:Nat) (nm:List UInt8) (l:List Mk.At) (w:World) (hP:P < w.heap.size) (hc:w.cell? ⟨P,0,none⟩=some (.string (st nm))):q70 179 #[.pointer (some ⟨P,0,none⟩)] (fun a=>a.n == nm) l w:=by
 intro w1 hb a _;have c0:w1.cell? ⟨P,0,none⟩=some (.string (st nm)):=(hb.cell (p:=⟨P,0,none⟩) hP).trans hc;have hP1:P < w1.heap.size:=Nat.lt_of_lt_of_le hP hb.size;unfold atV;go_enter Tryz.func179,Tryz.ntmps179;go_wp2_with fail;go_ret;exact⟨Z7 (by rw[show (st a.n).toList=a.n from Lib.toList_data _,show (st nm).toList=nm from Lib.toList_data _]),(Below.refl _ w1).alloc (Nat.le_refl _) _⟩
theorem eg_value (args:Array Value) (w:World):(callFunc 179 args).run Tryz.prog w=.ok (.enter 179 args) w:=Z4 Tryz.func179 (by kernel_rfl) rfl _ _
theorem j1p (n nm:List UInt8) (a:List Mk.At) (t:List UInt8) (va vk:Value) (k:Mk.Fo) (K:Nat→Prop) (w:World) (hva:AtsV w K va a) (hvk:∃ ao cap,vk=.slice ao k.len cap) (hK:∀ b,K b→b < w.heap.size) (hl:a.length≤33554432) :
  Calls Tryz.prog 121 #[V4 n va t vk,.string (st nm)] w fun e w'=>e=.returned (.tuple #[.string (st ((Fd.valueA a nm).getD [])),.bool (Fd.valueA a nm).isSome])∧Below w.heap.size w w':=by
 have hmf:∀ (fn:Fn) (first cap:Array Value) (w:World),(Instr.makeFunc fn first cap).run Tryz.prog w=.ok (.func fn first cap) w:=fun _ _ _ _=>rfl
 obtain⟨g,o,cap,hKg,hv1,hcl⟩:=hva.at_
 obtain⟨aok,capk,rfl⟩:=hvk;obtain⟨aoa,capa,hva1,_⟩:=id hva;subst hva1;have hV:Fd.valueA a nm=(a.find? fun x=>x.n == nm).map fun x=>x.v:=rfl
 have HV:=Lib.hid hV;generalize Fd.valueA a nm=out at HV ⊢;have hal1:=(Below.refl w.heap.size w).alloc (Nat.le_refl _) (.cells #[.string (st n),.slice aoa a.length capa,.string (st t),.slice aok k.len capk] 53);have hal2:=hal1.alloc hal1.size (.cells #[.string (st nm)] 9);have AL:=Lib.hid hal2;have NB:=Lib.hid (Blk.alloc (Blk.new w 53 #[.string (st n),.slice aoa a.length capa,.string (st t),.slice aok k.len capk]) (.cells #[.string (st nm)] 9));have SB0:=Blk.new (w.alloc (.cells #[.string (st n),.slice aoa a.length capa,.string (st t),.slice aok k.len capk] 53)) 9 #[.string (st nm)];rw[World.size_alloc] at SB0;have SB:=Lib.hid SB0;have HI:=Lib.hid (q6i 179 #[.pointer (some ⟨w.heap.size + 1,0,none⟩)] (fun x=>x.n == nm) eg_value a _ K _ (hva.below hK hal2) (fun b hb=>Nat.lt_of_lt_of_le (hK b hb) hal2.size) hl (j3h (w.heap.size + 1) nm a _ (Blk.lt SB0) (Blk.cell SB0 0)));have HC:=Lib.hid hcl;have HKW:=Lib.hid hK;have HVV:=Lib.hid hv1;clear hal1 hal2 SB0 hva hK hV hcl hv1;unfold V4;go_enter Tryz.func121,Tryz.ntmps121;go_upto_region 1 with fail;generalize (w.alloc (.cells #[.string (st n),.slice aoa a.length capa,.string (st t),.slice aok k.len capk] 53)).alloc (.cells #[.string (st nm)] 9)=w1 at AL NB SB HI ⊢;have c1:w1.cell? ⟨w.heap.size,1,none⟩=some (.slice aoa a.length capa):=Blk.cell NB.out 1;have hNl:=Blk.lt NB.out;clear SB;go_wp2_with fail;refine HI.out.mono ?_;rintro e w2 ⟨hb,i,rfl,hi⟩;have B2:=Lib.hid (AL.out.trans (hb.mono AL.out.size));have d1:w2.cell? ⟨w.heap.size,1,none⟩=some (.slice aoa a.length capa):=(hb.cell (p:=⟨w.heap.size,1,none⟩) hNl).trans c1;clear hb HI AL NB c1
 rcases hi with ⟨rfl,h2⟩ | ⟨j,hj,rfl,h2⟩
 ·have HE:Hid (out=none):=by show _=_;rw[HV.out,h2];rfl
  clear h2 HV;go_wp2_with fail;go_ret2;exact⟨by rw[HE.out];rfl,B2.out⟩
 ·have HE:Hid (out=some a[j].v):=by show _=_;rw[HV.out,h2];rfl
  clear h2 HV
  rcases HVV.out with hq | ⟨ao,hq,h0⟩
  ·injection hq with q1 q2 q3
   subst q1;obtain⟨c0,c1⟩:=HC.out j hj;have hg:g < w.heap.size:=HKW.out g (hKg (by intro e;subst e;simp at hj));rw[← B2.out.cell (p:=⟨g,_,none⟩) hg] at c0 c1;have hji:(j:Int) < a.length:=by omega
   have hj0:¬ (j:Int) < 0:=by omega
   have hj1:(0:Int)≤j:=by omega
   clear HC HVV hKg;go_wp2_with fail;go_ret2;exact⟨by rw[HE.out];rfl,B2.out⟩
  ·subst h0
   simp at hj
end Go.Proofs.YtjonkbdldebkiaaGreatDoor
namespace Fd
theorem j7a (p:Bs) (hp:p ≠ []) (l:Bs):z05 p l=if Go.Lib.index l p = -1 then none else some (l.take (Go.Lib.index l p).toNat,l.drop ((Go.Lib.index l p).toNat + p.length)):=by
 induction l with
 | nil =>
  cases p with
  | nil=>exact absurd rfl hp
  | cons _ _=>rfl
 | cons c t ih =>
  have hpre:Mg.pre p (c :: t)=p.isPrefixOf (c :: t):=by
   unfold Mg.pre;rw[Bool.eq_iff_iff,List.isPrefixOf_iff_prefix,beq_iff_eq,List.prefix_iff_eq_take];exact eq_comm
  unfold z05 Go.Lib.index;rw[hpre]
  cases h:p.isPrefixOf (c :: t) with
  | true=>simp
  | false =>
   rw[ih];have hge:=Go.Lib.index_ge t p
   by_cases h1:Go.Lib.index t p = -1
   ·simp[h1]
   ·have h2:(Go.Lib.index t p == -1)=false:=beq_eq_false_iff_ne.2 h1
    have h3:¬ (Go.Lib.index t p + 1 = -1):=by omega
    rw[h2];simp only [Bool.false_eq_true,if_false,if_neg h1,if_neg h3,Option.map_some];rw[show (Go.Lib.index t p + 1).toNat=(Go.Lib.index t p).toNat + 1 by omega,show (Go.Lib.index t p).toNat + 1 + p.length=((Go.Lib.index t p).toNat + p.length) + 1 by omega,List.drop_succ_cons,List.take_succ_cons]
end Fd
namespace Go.Proofs.YtjonkbdldebkiaaGreatDoor
open Go.RowKit
abbrev GaveX (e:Int):Ending:=.panicked [{ v:=.iface 28 (.int .i64 e),recovered:=false }]
theorem z3z (e:Int) (w:World):Calls Tryz.prog 166 #[.int .i64 e] w fun x w'=>x=GaveX e∧w'=w:=by
 go_enter Tryz.func166,Tryz.ntmps166;go_wp2_with fail;exact⟨rfl,rfl,rfl⟩
def Xr (w:World) (R:Nat) (s:ByteArray) (k:Nat):Prop:=Blk w R 217 #[.string s,.int .i64 k]
section
variable {w w' : World} {R : Nat} {s : ByteArray} {k : Nat}
theorem Xr.c0 (h:Xr w R s k):w.cell? ⟨R,0,none⟩=some (.string s):=Blk.cell h 0
theorem Xr.c1 (h:Xr w R s k):w.cell? ⟨R,1,none⟩=some (.int .i64 k):=Blk.cell h 1
theorem Xr.fz (h:Xr w R s k) (i:Nat):w.frozen? ⟨R,i,none⟩=false:=Blk.frozen h i
theorem Xr.drewN (h:Xr w R s k) (n:Nat):Xr (w.drewN n) R s k:=Blk.drewN h n
theorem Xr.at_ (h:Xr w R s k) (j:Nat):Xr (w.setCell ⟨R,1,none⟩ (.int .i64 j)) R s j:=Blk.set_ h 1 _
theorem z5m (p:List UInt8) (h:Xr w R s k) (hk:k≤s.size) (hs:s.size≤1048576) :
  Calls Tryz.prog 216 #[.pointer (some ⟨R,0,none⟩),.string (st p)] w fun e w'=>e=.returned (.bool (Mg.pre p (s.data.toList.drop k)))∧∃ n,w'=w.drewN n:=by
 have c0:=h.c0;have c1:=h.c1;have hk1:(k:Int)≤s.size:=by omega
 have hsp:=fun W=>z3b (s.extract k s.size) p W
 rw[show (s.extract k s.size).data.toList=s.data.toList.drop k from by rw[Z9,z0y,List.take_of_length_le (by rw[List.length_drop,bs_len];omega)]] at hsp;have HSP:=Lib.hid hsp;clear hsp;go_enter Tryz.func216,Tryz.ntmps216;go_wp2_with fail
 go_quiet ((go_at_call 254;exact(HSP.out _).mono fun e w'' hh=>⟨hh.1,_,hh.2.symm⟩))
 go_wp2_with fail;go_ret;exact⟨rfl,_,rfl⟩
theorem y0y (p:List UInt8) (h:Xr w R s k) (hk:k≤s.size) (hs:s.size≤1048576) :
  Calls Tryz.prog 213 #[.pointer (some ⟨R,0,none⟩),.string (st p)] w fun e w'=>(Mg.pre p (s.data.toList.drop k)=true∧k + p.length≤s.size∧e=.returned (.tuple #[])∧Xr w' R s (k + p.length)∧Moved R w w')∨(Mg.pre p (s.data.toList.drop k)=false∧e=GaveX 1∧∃ n,w'=w.drewN n):=by
 have HB:=Lib.hid (z5m p h hk hs);have HX:=Lib.hid h;clear h;obtain⟨b,hb⟩:∃ b,Mg.pre p (s.data.toList.drop k)=b:=⟨_,rfl⟩;rw[hb] at HB ⊢;have HBB:=Lib.hid hb;clear hb
 cases b with
 | false =>
  go_enter Tryz.func213,Tryz.ntmps213;go_wp2_with fail;refine HB.out.mono ?_;rintro e w1 ⟨rfl,n,hw1⟩;subst hw1;go_wp2_with fail;refine(z3z 1 _).mono ?_;rintro e w2 ⟨rfl,hw2⟩;subst w2;go_wp2_with fail;exact⟨rfl,.inr ⟨(by first | rfl | trivial),rfl,n,rfl⟩⟩
 | true =>
  have hpl:k + p.length≤s.size:=by
   have h1:=HBB.out;unfold Mg.pre at h1;have h2:(s.data.toList.drop k).take p.length=p:=by simpa using h1
   have h3:=congrArg List.length h2;rw[List.length_take,List.length_drop,bs_len] at h3;omega
  have HPZ:Hid ((st p).size=p.length):=y9 p;have hz1:(st p).size≤1048576:=by rw[HPZ.out];omega
  go_enter Tryz.func213,Tryz.ntmps213;go_wp2_with fail;refine HB.out.mono ?_;rintro e w1 ⟨rfl,n,hw1⟩;subst hw1;have X1:=HX.out.drewN n;have d1:=X1.c1;have g1:=X1.fz 1;have X2:=Lib.hid X1;clear X1;go_wp2_with fail;go_end0;refine .inl ⟨(by first | rfl | trivial),hpl,rfl,?_,((Moved.refl R w).drewN n).setCell 1 _⟩;have:=X2.out.at_ (k + p.length)
  rw[show ((k:Int) + ((st p).size:Int))=((k + p.length:Nat):Int) by rw[HPZ.out];omega];exact this
theorem xr_to (p:List UInt8) (hg:Gl w) (h:Xr w R s k) (hk:k≤s.size) (hs:s.size≤1048576) (hp:p ≠ []) (hpl:p.length≤3) :
  Calls Tryz.prog 251 #[.pointer (some ⟨R,0,none⟩),.string (st p)] w fun e w'=>(Fd.z05 p (s.data.toList.drop k)=none∧e=GaveX 1∧∃ n,w'=w.drewN n)∨∃ a j,Fd.z05 p (s.data.toList.drop k)=some (a,s.data.toList.drop j)∧e=.returned (.string (st a))∧k < j∧j≤s.size∧Xr w' R s j∧Moved R w w':=by
 have c0:=h.c0;have c1:=h.c1;have f1:=h.fz 1;have HX:=Lib.hid h;have hk1:(k:Int)≤s.size:=by omega
 have HA:=Lib.hid (Fd.j7a p hp (s.data.toList.drop k));have hd:(s.extract k s.size).data.toList=s.data.toList.drop k:=by rw[Z9,z0y,List.take_of_length_le (by rw[List.length_drop,bs_len];omega)]
 obtain⟨mm,hmm⟩:=hg.ml;have hc:=fun n=>Tryz.strings_Index (s.extract k s.size) (st p) mm (w.drewN n) (by rw[show (s.extract k s.size).size=(s.extract k s.size).data.toList.length from (bs_len _).symm,hd,List.length_drop,bs_len];omega) hmm
 rw[hd,z0y] at hc;have hge:=Lib.index_ge (s.data.toList.drop k) p;have hrm:=fun q=>Lib.index_room (s.data.toList.drop k) p q
 generalize Lib.index (s.data.toList.drop k) p=ix at hc hge HA hrm;have HC:=Lib.hid hc;have HPZ:Hid ((st p).size=p.length):=y9 p;have h2:=List.length_pos_iff.2 hp;have HRM:=Lib.hid hrm;clear hc hd hmm h hrm hp
 by_cases hi:ix = -1
 ·have HE:Hid (Fd.z05 p (s.data.toList.drop k)=none):=by show _=_;rw[HA.out,if_pos hi]
  subst hi;clear HA HRM;go_enter Tryz.func251,Tryz.ntmps251;go_wp2_with fail
  go_quiet ((go_at_call 272;exact(HC.out _).mono fun e w'' hh=>⟨hh.1,_,hh.2⟩))
  go_wp2_with fail;refine(z3z 1 _).mono ?_;rintro e w2 ⟨rfl,hw2⟩;subst w2;go_wp2_with fail;exact⟨rfl,.inl ⟨HE.out,rfl,_,rfl⟩⟩
 ·rw[if_neg hi] at HA
  obtain⟨i,rfl⟩:∃ i:Nat,ix=i:=⟨ix.toNat,by omega⟩;rw[Int.toNat_natCast,List.drop_drop] at HA;have hil:k + i + p.length≤s.size:=by
   have h1:=HRM.out (by omega);rw[List.length_drop,bs_len] at h1;omega
  clear hi hge HRM;have hi1:(k:Int) + i≤s.size:=by omega
  have hwi:IntKind.i64.wrap ((k:Int) + i)=(k:Int) + i:=by rw[IntKind.wrap_i64];omega
  have hx:s.extract k (k + i)=st ((s.data.toList.drop k).take i):=by rw[Z9,Nat.add_sub_cancel_left]
  go_enter Tryz.func251,Tryz.ntmps251;go_wp2_with fail
  go_quiet ((go_at_call 272;exact(HC.out _).mono fun e w'' hh=>⟨hh.1,_,hh.2⟩))
  go_wp2_with fail
  go_quiet (fail)
  go_wp2_with fail;have e1:wrap64 ((k:Int) + wrap64 ((i:Int) + (st p).size))=((k + (i + p.length):Nat):Int):=by
   rw[HPZ.out,w64 (n:=(i:Int) + p.length) (by omega) (by omega),w64 (by omega) (by omega)];omega
  rw[e1];go_ret;exact .inr ⟨_,_,HA.out,by rw[hx];rfl,by omega,by omega,(HX.out.drewN _).at_ _,((Moved.refl R w).drewN _).setCell 1 _⟩
end
end Go.Proofs.YtjonkbdldebkiaaGreatDoor
