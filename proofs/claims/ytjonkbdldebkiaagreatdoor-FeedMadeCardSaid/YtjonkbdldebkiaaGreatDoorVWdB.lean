/- Contracts of the program's padded and Print: a time as it is written. Condition: the library's table of powers is as it was laid. -/
import Derived.Test.YtjonkbdldebkiaaGreatDoorVWdA
import Derived.Test.YtjonkbdldebkiaaGreatDoorVMkFn
import Derived.Lib.AppendIntMem
import Derived.Deep.LoopGhost
set_option linter.unusedVariables false
set_option linter.unusedSimpArgs false
set_option maxHeartbeats 4000000
set_option maxRecDepth 100000
namespace Go.Proofs.YtjonkbdldebkiaaGreatDoor
open Go.Proofs.Tryz Go.RowKit
def Pow (w : World) : Prop := Lib.TabIs prog w "internal/strconv.uint64pow10" .u64 Lib.pow10Tab
theorem j7f (x y:List UInt8):st x++st y=st (x++y):=by
 apply ByteArray.ext
 simp[st]
theorem j4w (k n:Nat) (hk:k=1∨k=3) (hn:n < 10 ^ (k + 1)) (w:World) (hp:Pow w) :
  Calls prog 66 #[.int .i64 n,.int .i64 (k + 1)] w fun e w'=>e=.returned (.string (st (Fd.digs (k + 1) n)))∧Below w.heap.size w w':=by
 obtain⟨hd1,hd2⟩:=Fd.q89 k n hn;have HD1:=Ld hd1;have HD2:=Ld hd2;have hn9:(n:Int)≤9223372036854775807:=by
  have:n < 10000:=by rcases hk with rfl | rfl <;> omega
  omega
 have HI:=Ld (Tryz.strconv_Itoa (n:Int) (by omega) hn9 w hp);have hit:Lib.itoa (n:Int)=Lib.decDigits n:=by
  unfold Lib.itoa;rw[if_neg (by omega)];rfl
 rw[hit] at HI;have HK:Hid (k=1∨k=3):=hk;have hk4:k + 1≤4:=by omega
 have HM:Hid (((k:Int) + 1)=((k + 1:Nat):Int)):=by show _=_;omega
 clear hd1 hd2 hn hn9 hp hit hk;rw[HM.out];obtain⟨m,hm⟩:∃ m,k + 1=m:=⟨_,rfl⟩;rw[hm] at HD1 HD2 hk4 ⊢;clear HM HK hm;generalize Lib.decDigits n=dd at HD1 HD2 HI;go_enter func66,ntmps66;go_wp2_with fail;refine HI.out.mono ?_;rintro e w1 ⟨rfl,q,os,hw1⟩;have B1:Hid (Below w.heap.size w w1):=by rw[hw1];exact Lib.below_grow _ w (Lr) q os
 clear hw1 HI;go_wp2_with fail
 go_loopg [5] (m + 1) (fun g s wx=>∃ (j:Nat) (X:ByteArray),s=.string X∧Hid (X=st (List.replicate j 48++dd))∧j + dd.length≤m∧m≤j + dd.length + g∧Hid (wx=w1))
 case atStart=>exact⟨0,st dd,rfl,rfl,by have:=HD1.out;omega,by omega,rfl⟩
 case round =>
  obtain⟨j,X,rfl,HX,hj1,hj2,HW⟩:=hrel;obtain rfl:=HW.out;have hX:X.size=j + dd.length:=by rw[HX.out,Z4,List.length_append,List.length_replicate]
  by_cases hlt:X.size < m
  ·obtain⟨g',rfl⟩:∃ g',gk=g' + 1:=⟨gk - 1,by omega⟩
   have q1:¬ 9223372036854775807 < 1 + X.size:=by omega
   have HX2:Hid ((⟨#[48]⟩:ByteArray)++X=st (List.replicate (j + 1) 48++dd)):=by
    show _=_;rw[HX.out,show (⟨#[48]⟩:ByteArray)=st [48] from rfl,j7f,List.replicate_succ];rfl
   have r1:j + 1 + dd.length≤m:=by omega
   have r2:m≤j + 1 + dd.length + g':=by omega
   clear hX HX hj1 hj2;go_wp2_with fail
   go_roundg g'
   case measure=>omega
   case rel=>exact⟨j + 1,_,rfl,HX2,r1,r2,rfl⟩
  ·have HE:Hid (X=st (Fd.digs m n)):=by
    show _=_;rw[HX.out,← HD2.out,show m - dd.length=j by omega]
   clear hX HX hj1 hj2;go_wp2_with fail;go_ret;exact⟨z9e HE.out,B1.out⟩
end Go.Proofs.YtjonkbdldebkiaaGreatDoor
namespace Fd
theorem yrs_go (n:Nat) (y d:Int) (h:365 + lp y≤d):yrs (n + 1) y d=yrs n (y + 1) (d - (365 + lp y)):=by rw[yrs,if_pos h]
theorem yrs_stop (n:Nat) (y d:Int) (h:¬ 365 + lp y≤d):yrs n y d=(y,d):=by
 cases n with
 | zero=>rfl
 | succ n=>rw[yrs,if_neg h]
theorem mths_go (n:Nat) (y m d:Int) (h:long y m≤d):mths (n + 1) y m d=mths n y (m + 1) (d - long y m):=by rw[mths,if_pos h]
theorem j7c (n:Nat) (y m d:Int) (h:¬ long y m≤d):mths n y m d=(m,d):=by
 cases n with
 | zero=>rfl
 | succ n=>rw[mths,if_neg h]
end Fd
namespace Go.Proofs.YtjonkbdldebkiaaGreatDoor
open Go.Proofs.Tryz Go.RowKit
theorem Pow.below {w w':World} (h:Pow w) (hb:Below w.heap.size w w'):Pow w':=by
 unfold Pow Lib.TabIs World.var? at *
 cases hg : prog.globalNamed "internal/strconv.uint64pow10" with
 | none=>rw[hg] at h;cases h
 | some g =>
  rw[hg] at h;simp only [Option.bind_some] at h ⊢
  cases hh:w.heap[g]? with
  | none=>rw[hh] at h;cases h
  | some o=>rw[hb.block g (Array.getElem?_eq_some_iff.1 hh).1,hh];rw[hh] at h;exact h
theorem z6k (k n:Nat) (x m:Int) (hx:x=n) (hm:m=k + 1) (hk:k=1∨k=3) (hn:n < 10 ^ (k + 1)) (w:World) (hp:Pow w) :
  Calls prog 66 #[.int .i64 x,.int .i64 m] w fun e w'=>e=.returned (.string (st (Fd.digs (k + 1) n)))∧Below w.heap.size w w':=by
 subst hx;subst hm;exact j4w k n hk hn w hp
theorem q8a (t:Int) (h0:0≤t) (h1:t≤4102444799) (w:World) (hp:Pow w) :
  Calls prog 25 #[.int .i64 t] w fun e w'=>e=.returned (.tuple #[.string (st (Fd.Y5 t)),.int .i64 0])∧Below w.heap.size w w':=by
 obtain⟨yr1,yr2,yr3,yr4⟩:=Fd.z7m t h0 h1;obtain⟨mr1,mr2,mr3,mr4⟩:=Fd.q1i t h0 h1;have HP:=Ld hp;have hml:=Fd.j6b (Fd.Y2 t) (Fd.z5r t);have hlp:=Fd.lp_01 (Fd.Y2 t);have q1:t.tdiv 86400=t / 86400:=q8z h0;have q2:t.tmod 86400=t % 86400:=q7k h0;have HB:Hid (Fd.Y5 t=Fd.digs 4 (Fd.Y2 t).toNat++[45]++Fd.digs 2 (Fd.z5r t).toNat++[45]++Fd.digs 2 (Fd.z3t t + 1).toNat++[84]++Fd.digs 2 (t % 86400 / 3600).toNat++[58]++Fd.digs 2 (t % 86400 / 60 % 60).toNat++[58]++Fd.digs 2 (t % 86400 % 60).toNat++[90]):=rfl;have HY:Hid (Fd.yrs 200 1970 (t / 86400)=(Fd.Y2 t,Fd.dayOf t)):=rfl;have HMM:Hid (Fd.mths 12 (Fd.Y2 t) 1 (Fd.dayOf t)=(Fd.z5r t,Fd.z3t t)):=rfl;have hd1:0≤t / 86400:=by omega
 have hd2:t / 86400≤47481:=by omega
 have hs1:0≤t % 86400:=by omega
 have hs2:t % 86400 < 86400:=by omega
 have hE:Fd.z3t t≤30:=by omega
 have hD:Fd.dayOf t≤365:=by omega
 have HR:Hid (Fd.dayOf t < Fd.rest (Fd.Y2 t) 1):=by show _ < Fd.rest _ 1;have:Fd.rest (Fd.Y2 t) 1=365 + Fd.lp (Fd.Y2 t):=rfl;omega
 have Q1:=Ld q1;have Q2:=Ld q2;clear hp q1 q2 yr4 mr4 hml hlp;generalize Fd.Y5 t=out at HB ⊢;generalize Fd.Y2 t=Y at *;generalize Fd.dayOf t=D at *;generalize Fd.z5r t=M at *;generalize Fd.z3t t=E at *;have HAH:=Ld (fun (y:Int) (a:Int) (ha:a=Fd.ahead y) (hy:0≤y) (h2:y≤100000) (W:World)=>ha ▸ q9f y hy h2 W);go_enter func25,ntmps25;go_wp2_with fail
 go_loopw [4,5] (fun y d wr=>∃ (n:Nat) (yy dd:Int),y=.int .i64 yy∧d=.int .i64 dd∧1970≤yy∧yy + n≤2170∧0≤dd∧dd≤47481∧Hid (dd < 365 * n)∧Hid (Fd.yrs n yy dd=(Y,D))∧Hid (w=wr)) (fun _ d _=>(intOf d).toNat)
 case atStart=>exact⟨200,1970,t / 86400,rfl,rfl,by omega,by omega,hd1,hd2,by show _ < _;omega,HY,rfl⟩
 case round =>
  obtain⟨n,yy,dd,rfl,rfl,r1,r2,r3,r4,HN,HYY,HW⟩:=hrel;have hw:=HW.out;clear HW;subst hw;have hl:=Fd.j02 yy (by omega);have hlp:=Fd.lp_01 yy;obtain⟨a0,ha0⟩:∃ a,a=Fd.ahead yy:=⟨_,rfl⟩;obtain⟨a1,ha1⟩:∃ a,a=Fd.ahead (yy + 1):=⟨_,rfl⟩;have b0:0≤a0∧a0≤900000:=by rw[ha0];unfold Fd.ahead;rw[if_neg (by omega)];omega
  have b1:0≤a1∧a1≤900000:=by rw[ha1];unfold Fd.ahead;rw[if_neg (by omega)];omega
  obtain⟨b2,b3⟩:=b0;obtain⟨b4,b5⟩:=b1;have HA0:=Ld (HAH.out yy a0 ha0 (by omega) (by omega));have HA1:=Ld (HAH.out (yy + 1) a1 ha1 (by omega) (by omega));have HL:Hid (a1 - a0=365 + Fd.lp yy):=by show _=_;rw[ha0,ha1];exact hl
  by_cases hlt:a1 - a0≤dd
  ·have hle:365≤a1 - a0:=by have:=HL.out;omega
   have hn1:1≤n:=by have:=HN.out;omega
   have HYN:Hid (Fd.yrs (n - 1) (yy + 1) (dd - (a1 - a0))=(Y,D)):=by
    show _=_;have h:=HYY.out;rw[show n=(n - 1) + 1 by omega,Fd.yrs_go _ _ _ (by have:=HL.out;omega)] at h;rw[HL.out];exact h
   have HN2:Hid (dd - (a1 - a0) < 365 * ((n - 1:Nat):Int)):=by show _ < _;have:=HN.out;omega
   clear hl hlp ha0 ha1 HL HN HYY;go_wp2_with fail;refine(HA1.out _).mono ?_;rintro e wx ⟨rfl,hwx⟩;subst wx;go_wp2_with fail;refine(HA0.out _).mono ?_;rintro e wx ⟨rfl,hwx⟩;subst wx;go_wp2_with fail;refine(HA1.out _).mono ?_;rintro e wx ⟨rfl,hwx⟩;subst wx;go_wp2_with fail;refine(HA0.out _).mono ?_;rintro e wx ⟨rfl,hwx⟩;subst wx;go_wp2_with fail;go_roundw
   case rel=>exact⟨n - 1,yy + 1,dd - (a1 - a0),by go_num,by go_num,by omega,by omega,by omega,by omega,HN2,HYN,by first | exact rfl | exact trivial⟩
   case measure=>simp[intOf];omega
  ·have e:=HYY.out
   rw[Fd.yrs_stop _ _ _ (by have:=HL.out;omega)] at e;have E12:=Ld (Prod.mk.inj e);clear hl hlp ha0 ha1 HL HN HYY e;go_wp2_with fail;refine(HA1.out _).mono ?_;rintro e wx ⟨rfl,hwx⟩;subst wx;go_wp2_with fail;refine(HA0.out _).mono ?_;rintro e wx ⟨rfl,hwx⟩;subst wx;go_wp2_with fail;clear HA0 HA1 HAH b2 b3 b4 b5 hlt;obtain⟨e1,e2⟩:=E12.out;clear E12;subst e1;subst e2;have HLG:=Ld (fun (m:Int) (h1:1≤m) (h2:m≤12) (W:World)=>j5g yy m (by omega) h1 h2 W)
   go_loopw [5,6] (fun d m wr=>∃ (n:Nat) (mm dd:Int),d=.int .i64 dd∧m=.int .i64 mm∧1≤mm∧mm≤13∧Hid (mm + n=13)∧0≤dd∧dd≤365∧Hid (dd < Fd.rest yy mm)∧Hid (Fd.mths n yy mm dd=(M,E))∧Hid (Below w.heap.size w wr)) (fun d _ _=>(intOf d).toNat)
   case atStart=>exact⟨12,1,dd,rfl,rfl,by omega,by omega,rfl,by omega,by omega,HR,HMM,Below.refl _ _⟩
   case round =>
    clear HR HMM;obtain⟨n,mm,d1,rfl,rfl,s1,s2,HN,s3,s4,HRR,HM2,BL⟩:=hrel;have hn1:1≤n:=by
     rcases Nat.eq_zero_or_pos n with q | q
     ·exfalso
      have h1:=HN.out;have h2:=HRR.out;have h3:mm=13:=by omega
      rw[h3,show Fd.rest yy 13=0 from rfl] at h2;omega
     ·exact q
    have hmm:mm≤12:=by have:=HN.out;omega
    have hl:=Fd.j6b yy mm;have HRS:=Ld (Fd.rest_step yy mm s1 hmm);have HLm:=HLG.out mm s1 hmm;obtain⟨L,hL⟩:∃ L,Fd.long yy mm=L:=⟨_,rfl⟩;rw[hL] at HLm hl HRS;have HLL:=Ld hL;have HLM:=Ld HLm;obtain⟨l1,l2⟩:=hl;clear hL HLm
    by_cases hlt:L≤d1
    ·have HM3:Hid (Fd.mths (n - 1) yy (mm + 1) (d1 - L)=(M,E)):=by
      show _=_;have h:=HM2.out;rw[show n=(n - 1) + 1 by omega,Fd.mths_go _ _ _ _ (by rw[HLL.out];exact hlt),HLL.out] at h;exact h
     have HR2:Hid (d1 - L < Fd.rest yy (mm + 1)):=by show _ < _;have h1:=HRR.out;have h2:=HRS.out;omega
     have HN2:Hid (mm + 1 + ((n - 1:Nat):Int)=13):=by show _=_;have:=HN.out;omega
     clear HM2 HRR HRS HN HLL;go_wp2_with fail;refine(HLM.out _).mono ?_;rintro e w1 ⟨rfl,hb1⟩;have B1:=Ld (BL.out.trans (hb1.mono BL.out.size));clear hb1 BL;go_wp2_with fail;refine(HLM.out _).mono ?_;rintro e w2 ⟨rfl,hb2⟩;have B2:=Ld (B1.out.trans (hb2.mono B1.out.size));clear hb2 B1;go_wp2_with fail;go_roundw
     case rel=>exact⟨n - 1,mm + 1,d1 - L,by go_num,by go_num,by omega,by omega,HN2,by omega,by omega,HR2,HM3,B2⟩
     case measure=>simp[intOf];omega
    ·have e:=HM2.out
     rw[Fd.j7c _ _ _ _ (by rw[HLL.out];exact hlt)] at e;have E12:=Ld (Prod.mk.inj e);have g1:mm≤12:=hmm;have g2:d1≤30:=by omega
     clear HM2 HRR HRS HN HLL e;go_wp2_with fail;refine(HLM.out _).mono ?_;rintro e w1 ⟨rfl,hb1⟩;have B1:=Ld (BL.out.trans (hb1.mono BL.out.size));clear hb1 BL HLM HLG;obtain⟨e1,e2⟩:=E12.out;clear E12;subst e1;subst e2;go_upto_region 12 with fail;obtain⟨sn,hsn⟩:∃ sn:Nat,t % 86400=(sn:Int):=⟨(t % 86400).toNat,by omega⟩;obtain⟨yn,rfl⟩:∃ yn:Nat,yy=(yn:Int):=⟨yy.toNat,by omega⟩;obtain⟨mn,rfl⟩:∃ mn:Nat,mm=(mn:Int):=⟨mm.toNat,by omega⟩;obtain⟨en,rfl⟩:∃ en:Nat,d1=(en:Int):=⟨d1.toNat,by omega⟩;rw[hsn] at HB hs2 hs1 ⊢;have HE:Hid (out=Fd.digs 4 yn++[45]++Fd.digs 2 mn++[45]++Fd.digs 2 (en + 1)++[84]++Fd.digs 2 (sn / 3600)++[58]++Fd.digs 2 (sn / 60 % 60)++[58]++Fd.digs 2 (sn % 60)++[90]):=by
      have h:=HB.out;rw[show ((en:Int) + 1).toNat=en + 1 by omega,show ((sn:Int) / 3600).toNat=sn / 3600 by omega,show ((sn:Int) / 60 % 60).toNat=sn / 60 % 60 by omega,show ((sn:Int) % 60).toNat=sn % 60 by omega,Int.toNat_natCast,Int.toNat_natCast] at h;exact h
     have P1:Hid (Pow w1):=Pow.below HP.out B1.out;have HQ1:=Ld (fun W (hW:Pow W)=>z6k 3 yn (yn:Int) 4 rfl rfl (.inr rfl) (by omega) W hW);have HQ2:=Ld (fun W (hW:Pow W)=>z6k 1 mn (mn:Int) 2 rfl rfl (.inl rfl) (by omega) W hW);have HQ3:=Ld (fun W (hW:Pow W)=>z6k 1 (en + 1) ((en:Int) + 1) 2 (by omega) rfl (.inl rfl) (by omega) W hW);have HQ4:=Ld (fun W (hW:Pow W)=>z6k 1 (sn / 3600) ((sn:Int).tdiv 3600) 2 (by rw[q8z (by omega)];omega) rfl (.inl rfl) (by omega) W hW);have HQ5:=Ld (fun W (hW:Pow W)=>z6k 1 (sn / 60 % 60) (((sn:Int).tdiv 60).tmod 60) 2 (by rw[q8z (by omega),q7k (by omega)];omega) rfl (.inl rfl) (by omega) W hW);have HQ6:=Ld (fun W (hW:Pow W)=>z6k 1 (sn % 60) ((sn:Int).tmod 60) 2 (by rw[q7k (by omega)];omega) rfl (.inl rfl) (by omega) W hW);have HE2:Hid (st out=st (Fd.digs (3 + 1) yn)++⟨#[45]⟩++st (Fd.digs (1 + 1) mn)++⟨#[45]⟩++st (Fd.digs (1 + 1) (en + 1))++⟨#[84]⟩++st (Fd.digs (1 + 1) (sn / 3600))++⟨#[58]⟩++st (Fd.digs (1 + 1) (sn / 60 % 60))++⟨#[58]⟩++st (Fd.digs (1 + 1) (sn % 60))++⟨#[90]⟩):=by
      show _=_;rw[HE.out];simp only [← j7f];rfl
     have z1:(st (Fd.digs (3 + 1) yn)).size≤4:=by rw[Z4,Fd.z0r];omega
     have z2:(st (Fd.digs (1 + 1) mn)).size≤2:=by rw[Z4,Fd.z0r];omega
     have z3:(st (Fd.digs (1 + 1) (en + 1))).size≤2:=by rw[Z4,Fd.z0r];omega
     have z4:(st (Fd.digs (1 + 1) (sn / 3600))).size≤2:=by rw[Z4,Fd.z0r];omega
     have z5:(st (Fd.digs (1 + 1) (sn / 60 % 60))).size≤2:=by rw[Z4,Fd.z0r];omega
     have z6:(st (Fd.digs (1 + 1) (sn % 60))).size≤2:=by rw[Z4,Fd.z0r];omega
     clear HE HB;generalize st (Fd.digs (3 + 1) yn)=S1 at HQ1 HE2 z1;generalize st (Fd.digs (1 + 1) mn)=S2 at HQ2 HE2 z2;generalize st (Fd.digs (1 + 1) (en + 1))=S3 at HQ3 HE2 z3;generalize st (Fd.digs (1 + 1) (sn / 3600))=S4 at HQ4 HE2 z4;generalize st (Fd.digs (1 + 1) (sn / 60 % 60))=S5 at HQ5 HE2 z5;generalize st (Fd.digs (1 + 1) (sn % 60))=S6 at HQ6 HE2 z6;have k1:¬ 9223372036854775807 < S1.size + 1:=by omega
     have k2:¬ 9223372036854775807 < S1.size + 1 + S2.size:=by omega
     have k3:¬ 9223372036854775807 < S1.size + 1 + S2.size + 1:=by omega
     have k4:¬ 9223372036854775807 < S1.size + 1 + S2.size + 1 + S3.size:=by omega
     have k5:¬ 9223372036854775807 < S1.size + 1 + S2.size + 1 + S3.size + 1:=by omega
     have k6:¬ 9223372036854775807 < S1.size + 1 + S2.size + 1 + S3.size + 1 + S4.size:=by omega
     have k7:¬ 9223372036854775807 < S1.size + 1 + S2.size + 1 + S3.size + 1 + S4.size + 1:=by omega
     have k8:¬ 9223372036854775807 < S1.size + 1 + S2.size + 1 + S3.size + 1 + S4.size + 1 + S5.size:=by omega
     have k9:¬ 9223372036854775807 < S1.size + 1 + S2.size + 1 + S3.size + 1 + S4.size + 1 + S5.size + 1:=by omega
     have k10:¬ 9223372036854775807 < S1.size + 1 + S2.size + 1 + S3.size + 1 + S4.size + 1 + S5.size + 1 + S6.size:=by omega
     have k11:¬ 9223372036854775807 < S1.size + 1 + S2.size + 1 + S3.size + 1 + S4.size + 1 + S5.size + 1 + S6.size + 1:=by omega
     clear Q1 Q2 HP hs1 hs2 g1 g2 s1 s2 s3 s4 h0 h1 mr1 mr2 mr3 yr1 yr2 yr3;clear z1 z2 z3 z4 z5 z6;go_wp2_with fail;refine(HQ1.out _ P1.out).mono ?_;rintro e w2 ⟨rfl,hb2⟩;have B2:=Ld (B1.out.trans (hb2.mono B1.out.size));have P2:=Ld (Pow.below P1.out hb2);clear hb2 HQ1;go_wp2_with fail;refine(HQ2.out _ P2.out).mono ?_;rintro e w3 ⟨rfl,hb3⟩;have B3:=Ld (B2.out.trans (hb3.mono B2.out.size));have P3:=Ld (Pow.below P2.out hb3);clear hb3 HQ2;go_wp2_with fail;refine(HQ3.out _ P3.out).mono ?_;rintro e w4 ⟨rfl,hb4⟩;have B4:=Ld (B3.out.trans (hb4.mono B3.out.size));have P4:=Ld (Pow.below P3.out hb4);clear hb4 HQ3;go_wp2_with fail;refine(HQ4.out _ P4.out).mono ?_;rintro e w5 ⟨rfl,hb5⟩;have B5:=Ld (B4.out.trans (hb5.mono B4.out.size));have P5:=Ld (Pow.below P4.out hb5);clear hb5 HQ4;go_wp2_with fail;refine(HQ5.out _ P5.out).mono ?_;rintro e w6 ⟨rfl,hb6⟩;have B6:=Ld (B5.out.trans (hb6.mono B5.out.size));have P6:=Ld (Pow.below P5.out hb6);clear hb6 HQ5;go_wp2_with fail;refine(HQ6.out _ P6.out).mono ?_;rintro e w7 ⟨rfl,hb7⟩;have B7:=Ld (B6.out.trans (hb7.mono B6.out.size));have P7:=Ld (Pow.below P6.out hb7);clear hb7 HQ6;go_wp2_with fail;go_ret2;refine⟨?_,B7.out⟩;rw[HE2.out]
     trace_state
     rfl
end Go.Proofs.YtjonkbdldebkiaaGreatDoor
