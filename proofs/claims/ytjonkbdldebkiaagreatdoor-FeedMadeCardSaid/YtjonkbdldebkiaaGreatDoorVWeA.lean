/- Contracts of the program's Stays (is markup clean, and as it is printed) and of feed.Check. No condition. -/
import Derived.Test.YtjonkbdldebkiaaGreatDoorVUrlPlain
import Derived.Test.YtjonkbdldebkiaaGreatDoorVMkHtml
import Derived.Test.YtjonkbdldebkiaaGreatDoorVMkRep6
import Derived.Test.YtjonkbdldebkiaaGreatDoorVWsA
import Derived.Test.YtjonkbdldebkiaaGreatDoorVMkTok3
set_option linter.unusedVariables false
set_option linter.unusedSimpArgs false
set_option maxHeartbeats 16000000
set_option maxRecDepth 100000
namespace Go.Proofs.YtjonkbdldebkiaaGreatDoor
open Go.Proofs.Tryz Go.RowKit
theorem ntells (s:List UInt8) (hs:s.length≤3000):∀ t ∈ Mk.flat (Mk.build (Mk.toks s)),z8a t:=by
 intro t ht;have h1:=Mk.z8v s;have h2:=Mk.z6t (Mk.toks s);obtain⟨h4,h5⟩:=Mk.q9j _ t ht;exact⟨fun _=>z8u _ (by omega),fun a ha=>z8u _ (by have:=h5 a ha;omega)⟩
theorem j4t (s:List UInt8) (w:World) (hg:Gl w) :
  Calls prog 63 #[.string (st s)] w fun e w'=>e=.returned (.bool (Fd.q1h s))∧Below w.heap.size w w':=by
 have hst:∀ l:List UInt8,(st l).toList=l:=fun l=>Lib.toList_data _
 have HS:Hid (Fd.q1h s=(decide (s.length≤3000) && (Mk.z8r (Mk.build (Mk.toks s)) && (Mk.bytes (Mk.flat (Mk.build (Mk.toks s))) == s)))):=rfl
 by_cases h1:s.length≤3000
 ·have h2:¬ 3000 < (st s).size:=by rw[Z4];omega
  have HE:Hid (Fd.q1h s=(Mk.z8r (Mk.build (Mk.toks s)) && (Mk.bytes (Mk.flat (Mk.build (Mk.toks s))) == s))):=by show _=_;rw[HS.out,decide_eq_true h1,Bool.true_and]
  have HA:=Ld (mk_All (st s) w hg (by rw[Z4];omega));have hb1:=Mk.z8v s;have hb2:=Mk.z6t (Mk.toks s);have hb3:=Mk.q2l (Mk.build (Mk.toks s));have HT:=Ld (ntells s h1);have HB:Hid (Mk.Bld.tokB (Mk.toks s)≤549755813000∧(Mk.build (Mk.toks s)).bulk≤1048576∧(Mk.bytes (Mk.flat (Mk.build (Mk.toks s)))).length≤1099511627776):=⟨by omega,by omega,by omega⟩;clear HS h1 hb1 hb2 hb3;go_enter func63,ntmps63;go_wp2_with fail;refine HA.out.mono ?_;rintro e w1 ⟨v1,rfl,hv1,hb1⟩;have B1:=Ld hb1;have HO:=Ld (tr_Of (Mk.toks s) v1 _ w1 hv1 (fun b q=>q.2) HB.out.1);clear hv1 hb1 HA;go_wp2_with fail;refine HO.out.mono ?_;rintro e w2 ⟨v2,rfl,hv2,hb2⟩;have B2:=Ld (B1.out.trans (hb2.mono B1.out.size));have HV2:=Ld hv2;have HF:=Ld (cl_safe ((Mk.build (Mk.toks s)).bulk + 1) (Mk.build (Mk.toks s)) (Nat.lt_succ_self _) (Nat.le_trans HB.out.2.1 (by decide)) v2 _ w2 hv2 (fun b q=>q.2));clear hv2 hb2 HO B1;go_wp2_with fail;refine HF.out.mono ?_;rintro e w3 ⟨rfl,hb3⟩;have B3:=Ld (B2.out.trans (hb3.mono B2.out.size));have HV3:Hid (FoV w3 (fun x=>w1.heap.size≤x∧x < w2.heap.size) v2 (Mk.build (Mk.toks s))):=HV2.out.frame (fun b q=>⟨q,hb3.block b q.2⟩);have h23:=hb3.size;clear hb3 HF HV2 B2;obtain⟨b,hb⟩:∃ b,Mk.z8r (Mk.build (Mk.toks s))=b:=⟨_,rfl⟩;rw[hb] at HE ⊢;clear hb
  cases b with
  | false =>
   go_wp2_with fail;go_ret;exact⟨Z8 (by rw[HE.out];rfl),B3.out⟩
  | true =>
   have HK:=Ld (q79 ((Mk.build (Mk.toks s)).bulk + 1) (Mk.build (Mk.toks s)) (Nat.lt_succ_self _) (Nat.le_trans HB.out.2.1 (by decide)) v2 _ w3 HV3.out (fun b q=>Nat.lt_of_lt_of_le q.2 h23));go_wp2_with fail;refine HK.out.mono ?_;rintro e w4 ⟨v4,xs4,rfl,hv4,_,hb4⟩;have B4:=Ld (B3.out.trans (hb4.mono B3.out.size));have HBY:=Ld (j0a (Mk.flat (Mk.build (Mk.toks s))) v4 _ w4 hv4.toksV (fun b q=>q.2) HT.out HB.out.2.2);clear hv4 hb4 HK B3 HV3;go_wp2_with fail;refine HBY.out.mono ?_;rintro e w5 ⟨rfl,hb5⟩;have B5:=Ld (B4.out.trans (hb5.mono B4.out.size));clear hb5 HBY B4 HB HT;generalize Mk.bytes (Mk.flat (Mk.build (Mk.toks s)))=y at HE ⊢;go_wp2_with fail;go_ret;exact⟨Z8 (by rw[HE.out];simp[hst]),B5.out⟩
 ·have h2:3000 < (st s).size:=by rw[Z4];omega
  have HE:Hid (Fd.q1h s=false):=by show _=_;rw[HS.out,decide_eq_false h1,Bool.false_and]
  clear HS h1;go_enter func63,ntmps63;go_wp2_with fail;go_ret;exact⟨Z8 HE.out.symm,Below.refl _ _⟩
theorem q80 (s:List UInt8) (w:World) :
  Calls prog 61 #[.string (st s)] w fun e w'=>e=.returned (.bool (decide (3000 < s.length)))∧w'=w:=by
 by_cases h:3000 < s.length
 ·have h2:3000 < (st s).size:=by rw[Z4];omega
  rw[decide_eq_true h];clear h;go_enter func61,ntmps61;go_wp2_with fail;go_ret;exact⟨Z8 (decide_eq_true (by omega)),rfl⟩
 ·have h2:¬ 3000 < (st s).size:=by rw[Z4];omega
  rw[decide_eq_false h];clear h;go_enter func61,ntmps61;go_wp2_with fail;go_ret;exact⟨Z8 (decide_eq_false (by omega)),rfl⟩
theorem z3c (n:List UInt8):(n=[]∧n.isEmpty=true)∨(n ≠ []∧n.isEmpty=false):=by
 cases n with
 | nil=>exact .inl ⟨rfl,rfl⟩
 | cons _ _=>exact .inr ⟨by simp,rfl⟩
theorem q4j (x:Fd.En) (w:World) (hg:Gl w) :
  Calls prog 23 #[.agg #[.string (st x.id),.string (st x.ti),.string (st x.li),.int .i64 x.at_,.string (st x.ht)]] w fun e w'=>e=.returned (.int .i64 (Fd.z03 x))∧Below w.heap.size w w':=by
 have hst:∀ l:List UInt8,(st l).toList=l:=fun l=>Lib.toList_data _
 have HC:Hid (Fd.z03 x=if x.id=[] then 1 else if 60 < x.id.length∨3000 < x.ti.length∨3000 < x.li.length∨3000 < x.ht.length then 2 else if x.at_ < 0∨4102444799 < x.at_ then 3 else if (x.li ≠ []∧Mg.isSafe x.li=false)∨Fd.q1h x.ht=false then 4 else 0):=rfl;generalize Fd.z03 x=c at HC ⊢;obtain⟨id,ti,li,at_,ht⟩:=x;simp only at HC ⊢;have hal:=(Below.refl w.heap.size w).alloc (Lr) (.cells #[.string (st id),.string (st ti),.string (st li),.int .i64 at_,.string (st ht)] 44);have HAL:=Ld hal;have PB:=Ld (Blk.new w 44 #[.string (st id),.string (st ti),.string (st li),.int .i64 at_,.string (st ht)]);have HG:=Ld (hg.alloc (.cells #[.string (st id),.string (st ti),.string (st li),.int .i64 at_,.string (st ht)] 44));have hI:Mg.isSafe li=Mg.isSafe (st li).data.toList:=rfl;have HLT:=Ld (fun W=>q80 ti W);have HLL:=Ld (fun W=>q80 li W);have HLH:=Ld (fun W=>q80 ht W);have his:(st id).size=id.length:=Z4 id;have HIS:=Ld his;have HLI:Hid (li.length≤3000→∀ W,Calls prog 62 #[.string (st li)] W fun e w'=>e=.returned (.bool (Mg.isSafe li))∧Below W.heap.size W w'):=fun h W=>j0g (st li) W (by rw[Z4];omega)
 have HST:=Ld (fun W (hW:Gl W)=>j4t ht W hW);clear hal hI his hg
 rcases z3c id with ⟨e1,q1⟩ | ⟨e1,q1⟩
 ·have HE:Hid (c=1):=by show _=_;rw[HC.out,if_pos e1]
  clear e1;clear HC;go_enter func23,ntmps23;go_wp2_with (first | (go_at_call 61;refine(HLT.out _).mono ?_;rintro e wx ⟨rfl,hwx⟩;subst wx) | (go_at_call 61;refine(HLL.out _).mono ?_;rintro e wx ⟨rfl,hwx⟩;subst wx) | (go_at_call 61;refine(HLH.out _).mono ?_;rintro e wx ⟨rfl,hwx⟩;subst wx));go_ret;exact⟨V5 (by rw[HE.out]),HAL.out⟩
 rw[if_neg e1] at HC;clear e1
 by_cases q2:60 < id.length
 ·have HE:Hid (c=2):=by show _=_;rw[HC.out,if_pos (.inl q2)]
  have s2:60 < (st id).size:=by rw[Z4];exact q2
  clear q2;clear HC;go_enter func23,ntmps23;go_wp2_with (first | (go_at_call 61;refine(HLT.out _).mono ?_;rintro e wx ⟨rfl,hwx⟩;subst wx) | (go_at_call 61;refine(HLL.out _).mono ?_;rintro e wx ⟨rfl,hwx⟩;subst wx) | (go_at_call 61;refine(HLH.out _).mono ?_;rintro e wx ⟨rfl,hwx⟩;subst wx));go_ret;exact⟨V5 (by rw[HE.out]),HAL.out⟩
 have s2:¬ 60 < (st id).size:=by rw[Z4];exact q2
 by_cases q3:3000 < ti.length
 ·have HE:Hid (c=2):=by show _=_;rw[HC.out,if_pos (.inr (.inl q3))]
  rw[decide_eq_true q3] at HLT;clear q2 q3;clear HC;go_enter func23,ntmps23;go_wp2_with (first | (go_at_call 61;refine(HLT.out _).mono ?_;rintro e wx ⟨rfl,hwx⟩;subst wx) | (go_at_call 61;refine(HLL.out _).mono ?_;rintro e wx ⟨rfl,hwx⟩;subst wx) | (go_at_call 61;refine(HLH.out _).mono ?_;rintro e wx ⟨rfl,hwx⟩;subst wx));go_ret;exact⟨V5 (by rw[HE.out]),HAL.out⟩
 rw[decide_eq_false q3] at HLT
 by_cases q4:3000 < li.length
 ·have HE:Hid (c=2):=by show _=_;rw[HC.out,if_pos (.inr (.inr (.inl q4)))]
  rw[decide_eq_true q4] at HLL;clear q2 q3 q4;clear HC;go_enter func23,ntmps23;go_wp2_with (first | (go_at_call 61;refine(HLT.out _).mono ?_;rintro e wx ⟨rfl,hwx⟩;subst wx) | (go_at_call 61;refine(HLL.out _).mono ?_;rintro e wx ⟨rfl,hwx⟩;subst wx) | (go_at_call 61;refine(HLH.out _).mono ?_;rintro e wx ⟨rfl,hwx⟩;subst wx));go_ret;exact⟨V5 (by rw[HE.out]),HAL.out⟩
 rw[decide_eq_false q4] at HLL
 by_cases q5:3000 < ht.length
 ·have HE:Hid (c=2):=by show _=_;rw[HC.out,if_pos (.inr (.inr (.inr q5)))]
  rw[decide_eq_true q5] at HLH;clear q2 q3 q4 q5;clear HC;go_enter func23,ntmps23;go_wp2_with (first | (go_at_call 61;refine(HLT.out _).mono ?_;rintro e wx ⟨rfl,hwx⟩;subst wx) | (go_at_call 61;refine(HLL.out _).mono ?_;rintro e wx ⟨rfl,hwx⟩;subst wx) | (go_at_call 61;refine(HLH.out _).mono ?_;rintro e wx ⟨rfl,hwx⟩;subst wx));go_ret;exact⟨V5 (by rw[HE.out]),HAL.out⟩
 rw[decide_eq_false q5] at HLH;rw[if_neg (by rintro (q | q | q | q) <;> omega)] at HC
 by_cases q6:at_ < 0
 ·have HE:Hid (c=3):=by show _=_;rw[HC.out,if_pos (.inl q6)]
  clear q2 q3 q4 q5;clear HC;go_enter func23,ntmps23;go_wp2_with (first | (go_at_call 61;refine(HLT.out _).mono ?_;rintro e wx ⟨rfl,hwx⟩;subst wx) | (go_at_call 61;refine(HLL.out _).mono ?_;rintro e wx ⟨rfl,hwx⟩;subst wx) | (go_at_call 61;refine(HLH.out _).mono ?_;rintro e wx ⟨rfl,hwx⟩;subst wx));go_ret;exact⟨V5 (by rw[HE.out]),HAL.out⟩
 by_cases q7:4102444799 < at_
 ·have HE:Hid (c=3):=by show _=_;rw[HC.out,if_pos (.inr q7)]
  clear q2 q3 q4 q5;clear HC;go_enter func23,ntmps23;go_wp2_with (first | (go_at_call 61;refine(HLT.out _).mono ?_;rintro e wx ⟨rfl,hwx⟩;subst wx) | (go_at_call 61;refine(HLL.out _).mono ?_;rintro e wx ⟨rfl,hwx⟩;subst wx) | (go_at_call 61;refine(HLH.out _).mono ?_;rintro e wx ⟨rfl,hwx⟩;subst wx));go_ret;exact⟨V5 (by rw[HE.out]),HAL.out⟩
 rw[if_neg (by rintro (q | q) <;> omega)] at HC;have HLJ:=Ld (HLI.out (by omega));clear q2 q3 q4 q5 HLI;obtain⟨bs,hbs⟩:∃ b,Fd.q1h ht=b:=⟨_,rfl⟩;rw[hbs] at HST HC;clear hbs
 rcases z3c li with ⟨e8,q8⟩ | ⟨e8,q8⟩
 ·have HE:Hid (c=if bs=false then 4 else 0):=by
   show _=_;rw[HC.out]
   cases bs with
   | false=>rw[if_pos (.inr rfl),if_pos rfl]
   | true=>rw[if_neg (by rintro (q | q);exact q.1 e8;cases q),if_neg (by decide)]
  clear e8 HC HLJ;go_enter func23,ntmps23;go_wp2_with (first | (go_at_call 61;refine(HLT.out _).mono ?_;rintro e wx ⟨rfl,hwx⟩;subst wx) | (go_at_call 61;refine(HLL.out _).mono ?_;rintro e wx ⟨rfl,hwx⟩;subst wx) | (go_at_call 61;refine(HLH.out _).mono ?_;rintro e wx ⟨rfl,hwx⟩;subst wx));refine(HST.out _ HG.out).mono ?_;rintro e w1 ⟨rfl,hb1⟩;have B1:=Ld (HAL.out.trans (hb1.mono HAL.out.size));clear hb1
  cases bs with
  | false =>
   go_wp2_with fail;go_ret;exact⟨V5 (by rw[HE.out];rfl),B1.out⟩
  | true =>
   go_wp2_with fail;go_ret;exact⟨V5 (by rw[HE.out];rfl),B1.out⟩
 ·obtain⟨bi,hbi⟩:∃ b,Mg.isSafe li=b:=⟨_,rfl⟩
  rw[hbi] at HLJ HC;clear hbi
  cases bi with
  | false =>
   have HE:Hid (c=4):=by show _=_;rw[HC.out,if_pos (.inl ⟨e8,rfl⟩)]
   clear e8 HC;go_enter func23,ntmps23;go_wp2_with (first | (go_at_call 61;refine(HLT.out _).mono ?_;rintro e wx ⟨rfl,hwx⟩;subst wx) | (go_at_call 61;refine(HLL.out _).mono ?_;rintro e wx ⟨rfl,hwx⟩;subst wx) | (go_at_call 61;refine(HLH.out _).mono ?_;rintro e wx ⟨rfl,hwx⟩;subst wx));refine(HLJ.out _).mono ?_;rintro e w1 ⟨rfl,hb1⟩;have B1:=Ld (HAL.out.trans (hb1.mono HAL.out.size));clear hb1;go_wp2_with fail;go_ret;exact⟨V5 (by rw[HE.out]),B1.out⟩
  | true =>
   have HE:Hid (c=if bs=false then 4 else 0):=by
    show _=_;rw[HC.out]
    cases bs with
    | false=>rw[if_pos (.inr rfl),if_pos rfl]
    | true=>rw[if_neg (by rintro (q | q);cases q.2;cases q),if_neg (by decide)]
   clear e8 HC;go_enter func23,ntmps23;go_wp2_with (first | (go_at_call 61;refine(HLT.out _).mono ?_;rintro e wx ⟨rfl,hwx⟩;subst wx) | (go_at_call 61;refine(HLL.out _).mono ?_;rintro e wx ⟨rfl,hwx⟩;subst wx) | (go_at_call 61;refine(HLH.out _).mono ?_;rintro e wx ⟨rfl,hwx⟩;subst wx));refine(HLJ.out _).mono ?_;rintro e w1 ⟨rfl,hb1⟩;have B1:=Ld (HAL.out.trans (hb1.mono HAL.out.size));have p4:w1.cell? ⟨w.heap.size,4,none⟩=some (.string (st ht)):=Blk.cell (Blk.below PB.out hb1 (Blk.lt PB.out)) 4;have HG1:=Ld (HG.out.below hb1 HG.out.lt);clear hb1;go_wp2_with fail;refine(HST.out _ HG1.out).mono ?_;rintro e w2 ⟨rfl,hb2⟩;have B2:=Ld (B1.out.trans (hb2.mono B1.out.size));clear hb2
   cases bs with
   | false =>
    go_wp2_with fail;go_ret;exact⟨V5 (by rw[HE.out];rfl),B2.out⟩
   | true =>
    go_wp2_with fail;go_ret;exact⟨V5 (by rw[HE.out];rfl),B2.out⟩
end Go.Proofs.YtjonkbdldebkiaaGreatDoor
namespace Fd
theorem q7m (y:Int) (h0:0≤y) (h1:y≤99999):0≤ahead y∧ahead y≤36600000:=by
 unfold ahead
 split
 ·omega
 ·omega
end Fd
namespace Go.Proofs.YtjonkbdldebkiaaGreatDoor
open Go.Proofs.Tryz Go.RowKit
theorem dt_days (y m d:Int) (y0:0≤y) (y1:y≤99999) (m0:1≤m) (m1:m≤12) (d0:1≤d) (d1:d≤31) (w:World) :
  Calls prog 170 #[.int .i64 y,.int .i64 m,.int .i64 d] w fun e w'=>e=.returned (.int .i64 (Fd.z95 y m d))∧Below w.heap.size w w'∧-800000≤Fd.z95 y m d∧Fd.z95 y m d≤40000000:=by
 obtain⟨a1,a2⟩:=Fd.q7m y y0 y1;have HA:=Ld (fun W=>q9f y y0 (by omega) W);have HA70:=Ld (fun W=>q9f 1970 (by omega) (by omega) W);have h70:Fd.ahead 1970=719528:=by decide
 rw[h70] at HA70;have HD:Hid (Fd.z95 y m d=Fd.q8r (m - 1).toNat y (Fd.ahead y - 719528 + d - 1)):=by show _=_;unfold Fd.z95;rw[h70]
 generalize Fd.z95 y m d=out at HD ⊢;generalize Fd.ahead y=a at HA HD a1 a2;have HLG:=Ld (fun (k:Int) (h1:1≤k) (h2:k≤12) (W:World)=>j5g y k y0 h1 h2 W);obtain⟨mn,rfl⟩:∃ mn:Nat,m=((mn + 1:Nat):Int):=⟨(m - 1).toNat,by omega⟩;have HD2:Hid (out=Fd.q8r mn y (a - 719528 + d - 1)):=by
  show _=_;rw[HD.out,show (((mn + 1:Nat):Int) - 1).toNat=mn by omega]
 clear h70 HD;go_enter func170,ntmps170;go_wp2_with fail;refine(HA.out _).mono ?_;rintro e wx ⟨rfl,hwx⟩;subst wx;go_wp2_with fail;refine(HA70.out _).mono ?_;rintro e wx ⟨rfl,hwx⟩;subst wx;go_wp2_with fail
 go_loopw [7,8] (fun n k wr=>∃ (j:Nat) (nn:Int),j≤mn∧k=.int .i64 ((j:Int) + 1)∧n=.int .i64 nn∧-719528≤nn∧Hid (nn≤35880503 + 31 * j)∧Hid (nn=Fd.q8r j y (a - 719528 + d - 1))∧Hid (Below w.heap.size w wr)) (fun _ k _=>mn + 1 - (intOf k).toNat)
 case atStart=>exact⟨0,a - 719528 + d - 1,Nat.zero_le _,rfl,rfl,by omega,by show _≤_;omega,rfl,Below.refl _ _⟩
 case round =>
  obtain⟨j,nn,hj,rfl,rfl,h1,HB,HN,BL⟩:=hrel;have h2:nn≤36000000:=by have:=HB.out;omega
  by_cases hlt:j < mn
  ·have hl:=Fd.j6b y ((j:Int) + 1)
   have HLJ:=Ld (HLG.out ((j:Int) + 1) (by omega) (by omega));have HNX:Hid (Fd.q8r (j + 1) y (a - 719528 + d - 1)=Fd.q8r j y (a - 719528 + d - 1) + Fd.long y ((j:Int) + 1)):=rfl;generalize Fd.long y ((j:Int) + 1)=L at hl HLJ HNX;obtain⟨l1,l2⟩:=hl;go_wp2_with fail;refine(HLJ.out _).mono ?_;rintro e w1 ⟨rfl,hb1⟩;have B1:=Ld (BL.out.trans (hb1.mono BL.out.size));clear hb1;go_wp2_with fail;go_roundw
   case rel=>exact⟨j + 1,nn + L,by omega,by go_num,by go_num,by omega,by show _≤_;have:=HB.out;omega,by show _=_;rw[HNX.out,HN.out],B1⟩
   case measure=>simp[intOf];omega
  ·have hje:j=mn:=by omega
   have HE:Hid (out=nn):=by show _=_;rw[HD2.out,HN.out,hje]
   clear hje;go_wp2_with fail;go_ret;exact⟨by rw[HE.out];rfl,BL.out,by rw[HE.out];omega,by rw[HE.out];omega⟩
theorem q4b (y m d clock zone:Int) (y0:0≤y) (y1:y≤99999) (m0:0≤m) (m1:m≤99999) (d0:0≤d) (d1:d≤99999) (c0:0≤clock) (c1:clock≤400000000) (z0 : -400000000≤zone) (z1:zone≤400000000) (r:Fd.Dr) (R:Nat) (w:World) (h:DrS w R r) :
  Calls prog 106 #[.pointer (some ⟨R,0,none⟩),.int .i64 y,.int .i64 m,.int .i64 d,.int .i64 clock,.int .i64 zone] w fun e w'=>e=.returned (.tuple #[.int .i64 (Fd.z7j y m d clock zone r).1,.int .i64 (Fd.z7j y m d clock zone r).2])∧Below w.heap.size w w':=by
 have hst:∀ l:List UInt8,(st l).toList=l:=fun l=>Lib.toList_data _
 have HT:Hid (Fd.z7j y m d clock zone r=if r.short=true∨r.s ≠ [] then (0,1) else if m < 1∨12 < m∨d < 1∨Fd.long y m < d then (0,3) else if 86400 * Fd.z95 y m d + clock - zone < 0∨4102444799 < 86400 * Fd.z95 y m d + clock - zone then (0,3) else (86400 * Fd.z95 y m d + clock - zone,0)):=rfl;generalize Fd.z7j y m d clock zone r=out at HT ⊢;obtain⟨s,sh⟩:=r;simp only at HT;have k0:w.cell? ⟨R,0,none⟩=some (.string (st s)):=Blk.cell h 0;have k1:w.cell? ⟨R,1,none⟩=some (.bool sh):=Blk.cell h 1;clear h
 cases sh with
 | true =>
  have HE:Hid (out=(0,1)):=by show _=_;rw[HT.out,if_pos (.inl rfl)]
  clear HT;go_enter func106,ntmps106;go_wp2_with fail;go_ret2;exact⟨by rw[HE.out];rfl,Below.refl _ _⟩
 | false =>
  rcases z3c s with ⟨e1,e2⟩ | ⟨e1,e2⟩
  ·rw[if_neg (by rintro (q | q);cases q;exact q e1)] at HT
   clear e1
   by_cases q1:m < 1∨12 < m∨d < 1
   ·have HE:Hid (out=(0,3)):=by show _=_;rw[HT.out,if_pos (by omega)]
    clear HT
    rcases q1 with q1 | q1
    ·go_enter func106,ntmps106
     go_wp2_with fail;go_ret2;exact⟨by rw[HE.out];rfl,Below.refl _ _⟩
    ·by_cases q2:m < 1
     ·go_enter func106,ntmps106
      go_wp2_with fail;go_ret2;exact⟨by rw[HE.out];rfl,Below.refl _ _⟩
     ·rcases q1 with q1 | q1
      ·go_enter func106,ntmps106
       go_wp2_with fail;go_ret2;exact⟨by rw[HE.out];rfl,Below.refl _ _⟩
      ·by_cases q3:12 < m
       ·go_enter func106,ntmps106
        go_wp2_with fail;go_ret2;exact⟨by rw[HE.out];rfl,Below.refl _ _⟩
       ·go_enter func106,ntmps106
        go_wp2_with fail;go_ret2;exact⟨by rw[HE.out];rfl,Below.refl _ _⟩
   ·have r1:¬ m < 1:=by omega
    have r2:¬ 12 < m:=by omega
    have r3:¬ d < 1:=by omega
    have hl:=Fd.j6b y m;have HLG:=Ld (fun W=>j5g y m y0 (by omega) (by omega) W)
    by_cases q4:Fd.long y m < d
    ·have HE:Hid (out=(0,3)):=by show _=_;rw[HT.out,if_pos (.inr (.inr (.inr q4)))]
     clear HT q1;generalize Fd.long y m=L at hl HLG q4;go_enter func106,ntmps106;go_wp2_with fail;refine(HLG.out _).mono ?_;rintro e w1 ⟨rfl,hb1⟩;have B1:=Ld hb1;clear hb1;go_wp2_with fail;go_ret2;exact⟨by rw[HE.out];rfl,B1.out⟩
    ·rw[if_neg (by rintro (q | q | q | q) <;> omega)] at HT
     have HDY:=Ld (fun W=>dt_days y m d y0 y1 (by omega) (by omega) (by omega) (by omega) W);generalize Fd.long y m=L at hl HLG q4;generalize Fd.z95 y m d=D at HDY HT;clear q1
     by_cases q5:86400 * D + clock - zone < 0∨4102444799 < 86400 * D + clock - zone
     ·have HE:Hid (out=(0,3)):=by show _=_;rw[HT.out,if_pos q5]
      clear HT;go_enter func106,ntmps106;go_wp2_with fail;refine(HLG.out _).mono ?_;rintro e w1 ⟨rfl,hb1⟩;have B1:=Ld hb1;clear hb1;go_wp2_with fail;refine(HDY.out _).mono ?_;rintro e w2 ⟨rfl,hb2,g1,g2⟩;have B2:=Ld (B1.out.trans (hb2.mono B1.out.size));clear hb2
      rcases q5 with q5 | q5
      ·go_wp2_with fail
       go_ret2;exact⟨by rw[HE.out];rfl,B2.out⟩
      ·have q6:¬ 86400 * D + clock - zone < 0:=by omega
       go_wp2_with fail;go_ret2;exact⟨by rw[HE.out];rfl,B2.out⟩
     ·have HE:Hid (out=(86400 * D + clock - zone,0)):=by show _=_;rw[HT.out,if_neg q5]
      have q6:¬ 86400 * D + clock - zone < 0:=by omega
      have q7:¬ 4102444799 < 86400 * D + clock - zone:=by omega
      clear HT q5;go_enter func106,ntmps106;go_wp2_with fail;refine(HLG.out _).mono ?_;rintro e w1 ⟨rfl,hb1⟩;have B1:=Ld hb1;clear hb1;go_wp2_with fail;refine(HDY.out _).mono ?_;rintro e w2 ⟨rfl,hb2,g1,g2⟩;have B2:=Ld (B1.out.trans (hb2.mono B1.out.size));clear hb2;go_wp2_with fail;go_ret2;exact⟨by rw[HE.out];rfl,B2.out⟩
  ·have HE:Hid (out=(0,1)):=by show _=_;rw[HT.out,if_pos (.inr e1)]
   clear HT e1;go_enter func106,ntmps106;go_wp2_with fail;go_ret2;exact⟨by rw[HE.out];rfl,Below.refl _ _⟩
theorem q4c (r:Fd.Dr) (R:Nat) (w:World) (h:DrS w R r) :
  Calls prog 107 #[.pointer (some ⟨R,0,none⟩),.string (st [58])] w fun e w'=>e=.returned (.int .i64 (Fd.z2u [58] r).1)∧DrS w' R (Fd.z2u [58] r).2∧Ap (fun b=>b=R) w w'∧-400000000≤(Fd.z2u [58] r).1∧(Fd.z2u [58] r).1≤400000000:=by
 have hst:∀ l:List UInt8,(st l).toList=l:=fun l=>Lib.toList_data _
 have HH:=Ld (fun (W:World) (rr:Fd.Dr) (hW:DrS W R rr)=>z1g 2 23 rr R W hW (by decide));have HM:=Ld (fun (W:World) (rr:Fd.Dr) (hW:DrS W R rr)=>z1g 2 59 rr R W hW (by decide));have HS:=Ld (fun (W:World) (rr:Fd.Dr) (hW:DrS W R rr)=>z1t [58] rr R W hW (by decide));have K1:=Ld (z1t [43,45] r R w h (by decide));have HC:Hid (Fd.z2u [58] r=((if (Fd.V4 [43,45] r).1=45 then -1 else 1) * (3600 * (Fd.Y0 2 23 (Fd.V4 [43,45] r).2).1 + 60 * (Fd.Y0 2 59 (Fd.V4 [58] (Fd.Y0 2 23 (Fd.V4 [43,45] r).2).2).2).1),(Fd.Y0 2 59 (Fd.V4 [58] (Fd.Y0 2 23 (Fd.V4 [43,45] r).2).2).2).2)):=rfl;generalize Fd.z2u [58] r=out at HC ⊢;generalize Fd.V4 [43,45] r=x1 at K1 HC;clear h;obtain⟨c,b1⟩:=x1;simp only at K1 HC;go_enter func107,ntmps107;go_wp2_with fail;refine K1.out.mono ?_;rintro e w1 ⟨rfl,hd1,ha1⟩;have DR1:=Ld hd1;have AP1:=Ld ha1;clear hd1 ha1 K1;have K2:=Ld (HH.out w1 _ DR1.out);generalize Fd.Y0 2 23 b1=x2 at K2 HC;obtain⟨a2,b2⟩:=x2;simp only at K2 HC
 by_cases h45:c=45
 ·have e1:((c.toNat:Int) == 45)=true:=by rw[h45];rfl
  rw[if_pos h45] at HC;clear h45;go_wp2_with fail;refine K2.out.mono ?_;rintro e w2 ⟨rfl,hd2,ha2,p1,p2⟩;have DR2:=Ld hd2;have AP2:=Ld (AP1.out.trans ha2);clear hd2 ha2 K2;have K3:=Ld (HS.out w2 _ DR2.out);generalize Fd.V4 [58] b2=x3 at K3 HC;go_wp2_with fail;refine K3.out.mono ?_;rintro e w3 ⟨rfl,hd3,ha3⟩;have DR3:=Ld hd3;have AP3:=Ld (AP2.out.trans ha3);clear hd3 ha3 K3;have K4:=Ld (HM.out w3 _ DR3.out);generalize Fd.Y0 2 59 x3.2=x4 at K4 HC;obtain⟨a4,b4⟩:=x4;simp only at K4 HC;go_wp2_with fail;refine K4.out.mono ?_;rintro e w4 ⟨rfl,hd4,ha4,p3,p4⟩;have DR4:=Ld hd4;have AP4:=Ld (AP3.out.trans ha4);clear hd4 ha4 K4;go_wp2_with fail;go_ret;exact⟨by rw[HC.out];first | rfl | (show Ending.returned (.int .i64 _)=.returned (.int .i64 _);congr 2;omega),by rw[HC.out];exact DR4.out,AP4.out,by rw[HC.out];show _≤(-1) * (3600 * a2 + 60 * a4);omega,by rw[HC.out];show (-1) * (3600 * a2 + 60 * a4)≤_;omega⟩
 ·have e1:((c.toNat:Int) == 45)=false:=by rw[beq_eq_false_iff_ne];intro q;exact h45 (UInt8.toNat_inj.1 (by show c.toNat=45;omega))
  rw[if_neg h45] at HC;clear h45;go_wp2_with fail;refine K2.out.mono ?_;rintro e w2 ⟨rfl,hd2,ha2,p1,p2⟩;have DR2:=Ld hd2;have AP2:=Ld (AP1.out.trans ha2);clear hd2 ha2 K2;have K3:=Ld (HS.out w2 _ DR2.out);generalize Fd.V4 [58] b2=x3 at K3 HC;go_wp2_with fail;refine K3.out.mono ?_;rintro e w3 ⟨rfl,hd3,ha3⟩;have DR3:=Ld hd3;have AP3:=Ld (AP2.out.trans ha3);clear hd3 ha3 K3;have K4:=Ld (HM.out w3 _ DR3.out);generalize Fd.Y0 2 59 x3.2=x4 at K4 HC;obtain⟨a4,b4⟩:=x4;simp only at K4 HC;go_wp2_with fail;refine K4.out.mono ?_;rintro e w4 ⟨rfl,hd4,ha4,p3,p4⟩;have DR4:=Ld hd4;have AP4:=Ld (AP3.out.trans ha4);clear hd4 ha4 K4;go_wp2_with fail;go_ret;exact⟨by rw[HC.out];first | rfl | (show Ending.returned (.int .i64 _)=.returned (.int .i64 _);congr 2;omega),by rw[HC.out];exact DR4.out,AP4.out,by rw[HC.out];show _≤1 * (3600 * a2 + 60 * a4);omega,by rw[HC.out];show 1 * (3600 * a2 + 60 * a4)≤_;omega⟩
theorem q5x (r:Fd.Dr) (R:Nat) (w:World) (h:DrS w R r) :
  Calls prog 107 #[.pointer (some ⟨R,0,none⟩),.string (st [])] w fun e w'=>e=.returned (.int .i64 (Fd.z2u [] r).1)∧DrS w' R (Fd.z2u [] r).2∧Ap (fun b=>b=R) w w'∧-400000000≤(Fd.z2u [] r).1∧(Fd.z2u [] r).1≤400000000:=by
 have hst:∀ l:List UInt8,(st l).toList=l:=fun l=>Lib.toList_data _
 have HH:=Ld (fun (W:World) (rr:Fd.Dr) (hW:DrS W R rr)=>z1g 2 23 rr R W hW (by decide));have HM:=Ld (fun (W:World) (rr:Fd.Dr) (hW:DrS W R rr)=>z1g 2 59 rr R W hW (by decide));have HS:=Ld (fun (W:World) (rr:Fd.Dr) (hW:DrS W R rr)=>z1t [58] rr R W hW (by decide));have K1:=Ld (z1t [43,45] r R w h (by decide));have HC:Hid (Fd.z2u [] r=((if (Fd.V4 [43,45] r).1=45 then -1 else 1) * (3600 * (Fd.Y0 2 23 (Fd.V4 [43,45] r).2).1 + 60 * (Fd.Y0 2 59 (Fd.Y0 2 23 (Fd.V4 [43,45] r).2).2).1),(Fd.Y0 2 59 (Fd.Y0 2 23 (Fd.V4 [43,45] r).2).2).2)):=rfl;generalize Fd.z2u [] r=out at HC ⊢;generalize Fd.V4 [43,45] r=x1 at K1 HC;clear h;obtain⟨c,b1⟩:=x1;simp only at K1 HC;go_enter func107,ntmps107;go_wp2_with fail;refine K1.out.mono ?_;rintro e w1 ⟨rfl,hd1,ha1⟩;have DR1:=Ld hd1;have AP1:=Ld ha1;clear hd1 ha1 K1;have K2:=Ld (HH.out w1 _ DR1.out);generalize Fd.Y0 2 23 b1=x2 at K2 HC;obtain⟨a2,b2⟩:=x2;simp only at K2 HC
 by_cases h45:c=45
 ·have e1:((c.toNat:Int) == 45)=true:=by rw[h45];rfl
  rw[if_pos h45] at HC;clear h45;go_wp2_with fail;refine K2.out.mono ?_;rintro e w2 ⟨rfl,hd2,ha2,p1,p2⟩;have DR2:=Ld hd2;have AP2:=Ld (AP1.out.trans ha2);clear hd2 ha2 K2;have K4:=Ld (HM.out w2 _ DR2.out);generalize Fd.Y0 2 59 b2=x4 at K4 HC;obtain⟨a4,b4⟩:=x4;simp only at K4 HC;go_wp2_with fail;refine K4.out.mono ?_;rintro e w4 ⟨rfl,hd4,ha4,p3,p4⟩;have DR4:=Ld hd4;have AP4:=Ld (AP2.out.trans ha4);clear hd4 ha4 K4;go_wp2_with fail;go_ret;exact⟨by rw[HC.out];first | rfl | (show Ending.returned (.int .i64 _)=.returned (.int .i64 _);congr 2;omega),by rw[HC.out];exact DR4.out,AP4.out,by rw[HC.out];show _≤(-1) * (3600 * a2 + 60 * a4);omega,by rw[HC.out];show (-1) * (3600 * a2 + 60 * a4)≤_;omega⟩
 ·have e1:((c.toNat:Int) == 45)=false:=by rw[beq_eq_false_iff_ne];intro q;exact h45 (UInt8.toNat_inj.1 (by show c.toNat=45;omega))
  rw[if_neg h45] at HC;clear h45;go_wp2_with fail;refine K2.out.mono ?_;rintro e w2 ⟨rfl,hd2,ha2,p1,p2⟩;have DR2:=Ld hd2;have AP2:=Ld (AP1.out.trans ha2);clear hd2 ha2 K2;have K4:=Ld (HM.out w2 _ DR2.out);generalize Fd.Y0 2 59 b2=x4 at K4 HC;obtain⟨a4,b4⟩:=x4;simp only at K4 HC;go_wp2_with fail;refine K4.out.mono ?_;rintro e w4 ⟨rfl,hd4,ha4,p3,p4⟩;have DR4:=Ld hd4;have AP4:=Ld (AP2.out.trans ha4);clear hd4 ha4 K4;go_wp2_with fail;go_ret;exact⟨by rw[HC.out];first | rfl | (show Ending.returned (.int .i64 _)=.returned (.int .i64 _);congr 2;omega),by rw[HC.out];exact DR4.out,AP4.out,by rw[HC.out];show _≤1 * (3600 * a2 + 60 * a4);omega,by rw[HC.out];show 1 * (3600 * a2 + 60 * a4)≤_;omega⟩
end Go.Proofs.YtjonkbdldebkiaaGreatDoor
namespace Fd
theorem j6a (c:UInt8):z2i c=((decide (97≤(c.toNat:Int)) && decide ((c.toNat:Int)≤122)) || (decide (65≤(c.toNat:Int)) && decide ((c.toNat:Int)≤90))):=by
 have e:∀ a b:UInt8,decide (a≤b)=decide (((a.toNat:Nat):Int)≤(b.toNat:Int)):=by
  intro a b;rw[Bool.eq_iff_iff,decide_eq_true_iff,decide_eq_true_iff,UInt8.le_iff_toNat_le];omega
 unfold z2i;rw[e 97 c,e c 122,e 65 c,e c 90];rfl
theorem three_no (s:Bs) (sh:Bool) (k:Nat) (hk:k < 3) (h:∀ q:k < s.length,z2i s[k]=false):z1w ⟨s,sh⟩=([],⟨[],true⟩):=by
 unfold z1w;rw[if_neg];rintro ⟨h1,h2⟩;have hks:k < s.length:=by simp only at h1;omega
 rw[List.all_eq_true] at h2;have hm:s[k] ∈ s.take 3:=List.mem_take_iff_getElem.2 ⟨k,by omega,rfl⟩;have:=h2 _ hm;rw[h hks] at this
 cases this
end Fd
namespace Go.Proofs.YtjonkbdldebkiaaGreatDoor
open Go.Proofs.Tryz Go.RowKit
theorem q5y (c:UInt8) (w:World) :
  Calls prog 108 #[.int .u8 c.toNat] w fun e w'=>e=.returned (.bool (Fd.z2i c))∧w'=w:=by
 have HL:=Ld (Fd.j6a c);go_enter func108,ntmps108;go_wp2_with fail
 all_goals (go_ret;refine⟨Z8 ?_,rfl⟩;rw[HL.out];first | rfl | (simp[*];done) | (simp[*];omega))
theorem q9e (r:Fd.Dr) (R:Nat) (w:World) (h:DrS w R r) (hs:r.s.length≤1000000) :
  Calls prog 109 #[.pointer (some ⟨R,0,none⟩),.int .i64 3,.func (.func 108) #[] #[]] w fun e w'=>e=.returned (.string (st (Fd.z1w r).1))∧DrS w' R (Fd.z1w r).2∧Ap (fun b=>b=R) w w':=by
 obtain⟨s,sh⟩:=r;simp only at hs;have RB:=Ld h;have c0:w.cell? ⟨R,0,none⟩=some (.string (st s)):=Blk.cell h 0;have c1:w.cell? ⟨R,1,none⟩=some (.bool sh):=Blk.cell h 1;have f0:=Blk.frozen h 0;have f1:=Blk.frozen h 1;clear h;have HNO:=Ld (Fd.three_no s sh);have hss:(st s).size=s.length:=Z4 s;have HSS:=Ld hss;have HST:Hid (∀ W:World,((W.setCell ⟨R,0,none⟩ (.string (st []))).setCell ⟨R,1,none⟩ (.bool true))=((W.setCell ⟨R,0,none⟩ (.string ⟨#[]⟩)).setCell ⟨R,1,none⟩ (.bool true))):=fun _=>rfl
 clear hss;go_enter func109,ntmps109;go_wp2_with fail
 go_loopw [10] (fun i wr=>∃ k:Nat,k≤3∧i=.int .i64 k∧k≤s.length∧Hid ((s.take k).all Fd.z2i=true)∧Hid (w=wr)) (fun i _=>3 - (intOf i).toNat)
 case atStart=>exact⟨0,Nat.zero_le _,rfl,Nat.zero_le _,rfl,by first | exact rfl | exact trivial⟩
 case round =>
  obtain⟨k,hk,rfl,hks,HA,HW⟩:=hrel;have hw:=HW.out;clear HW;subst hw
  by_cases hlt:k < 3
  ·by_cases h1:k < s.length
   ·have s1:k < (st s).size:=by rw[HSS.out];exact h1
    have hget:∀ q:k < (st s).size,(st s)[k]'q=s[k]:=fun _=>rfl
    have HLT:=Ld (q5y s[k] w);have HTK:Hid (s.take (k + 1)=s.take k++[s[k]]):=List.take_succ_eq_append_getElem h1;obtain⟨b,hb⟩:∃ b,Fd.z2i s[k]=b:=⟨_,rfl⟩;rw[hb] at HLT;have HB:=Ld hb;clear hb;go_wp2_with fail;refine HLT.out.mono ?_;rintro e w1 ⟨rfl,hw1⟩;subst w1
    cases b with
    | true =>
     go_wp2_with fail;go_roundw
     case rel=>exact⟨k + 1,by omega,by go_num,by omega,by show _=_;rw[HTK.out,List.all_append,HA.out];simp[HB.out],by first | exact rfl | exact trivial⟩
     case measure=>simp[intOf];omega
    | false =>
     have HE:Hid (Fd.z1w ⟨s,sh⟩=([],⟨[],true⟩)):=HNO.out k hlt (fun q=>HB.out);go_wp2_with fail;go_ret;exact⟨by rw[HE.out];rfl,by rw[HE.out];exact Blk.set_ (Blk.set_ RB.out 0 _) 1 _,((Ap.refl (fun b=>b=R) w).setCell (p:=⟨R,0,none⟩) rfl _).setCell (p:=⟨R,1,none⟩) rfl _⟩
   ·have s1:¬ k < (st s).size:=by rw[HSS.out];exact h1
    have HE:Hid (Fd.z1w ⟨s,sh⟩=([],⟨[],true⟩)):=HNO.out k hlt (fun q=>absurd q h1);go_wp2_with fail;go_ret;exact⟨by rw[HE.out];rfl,by rw[HE.out];exact Blk.set_ (Blk.set_ RB.out 0 _) 1 _,((Ap.refl (fun b=>b=R) w).setCell (p:=⟨R,0,none⟩) rfl _).setCell (p:=⟨R,1,none⟩) rfl _⟩
  ·have hke:k=3:=by omega
   subst hke;have HE:Hid (Fd.z1w ⟨s,sh⟩=(s.take 3,⟨s.drop 3,sh⟩)):=by
    show _=_;unfold Fd.z1w;rw[if_pos ⟨hks,HA.out⟩]
   have s1:3≤(st s).size:=by rw[HSS.out];exact hks
   have hx1:(st s).extract 0 3=st (s.take 3):=by rw[Y1];rfl
   have hx2:(st s).extract 3 (st s).size=st (s.drop 3):=by
    rw[Y1,HSS.out,List.take_of_length_le]
    ·rfl
    ·show (s.drop 3).length≤_;rw[List.length_drop];omega
   go_wp2_with fail;go_ret;exact⟨by rw[HE.out];rfl,by rw[HE.out];exact Blk.set_ RB.out 0 _,(Ap.refl (fun b=>b=R) w).setCell (p:=⟨R,0,none⟩) rfl _⟩
end Go.Proofs.YtjonkbdldebkiaaGreatDoor
namespace Fd
theorem idx_none (x:Bs) (h:∀ j (q:j < z0d.length),z0d[j] ≠ x):z0d.idxOf? x=none:=by
 unfold List.idxOf?;rw[List.findIdx?_eq_none_iff];intro y hy;obtain⟨j,hj,e⟩:=List.mem_iff_getElem.1 hy;rw[beq_eq_false_iff_ne,← e];exact h j hj
theorem z1q (x:Bs) (k:Nat) (hk:k < z0d.length) (h:∀ j (q:j < k) (q2:j < z0d.length),z0d[j] ≠ x) (he:z0d[k]=x):z0d.idxOf? x=some k:=by
 unfold List.idxOf?;rw[List.findIdx?_eq_some_iff_getElem];refine⟨hk,by rw[he];simp,fun j hj=>?_⟩;rw[beq_iff_eq];exact h j hj (by omega)
theorem month_is (r:Dr):z4v r=match z0d.idxOf? (z1w r).1 with
 | none=>(0,⟨(z1w r).2.s,true⟩)
 | some k=>((k:Int) + 1,(z1w r).2):=rfl
end Fd
namespace Go.Proofs.YtjonkbdldebkiaaGreatDoor
open Go.Proofs.Tryz Go.RowKit
theorem dr_month (r:Fd.Dr) (R:Nat) (w:World) (h:DrS w R r) (hs:r.s.length≤1000000) :
  Calls prog 110 #[.pointer (some ⟨R,0,none⟩)] w fun e w'=>e=.returned (.int .i64 (Fd.z4v r).1)∧DrS w' R (Fd.z4v r).2∧Ap (fun b=>b=R) w w'∧0≤(Fd.z4v r).1∧(Fd.z4v r).1≤12:=by
 have hst:∀ l:List UInt8,(st l).toList=l:=fun l=>Lib.toList_data _
 have K1:=Ld (q9e r R w h hs);have HM:=Ld (Fd.month_is r);generalize Fd.z4v r=out at HM ⊢;generalize Fd.z1w r=x1 at K1 HM;obtain⟨x,b1⟩:=x1;simp only at K1 HM;clear h hs;go_enter func110,ntmps110;go_wp2_with fail;refine K1.out.mono ?_;rintro e w1 ⟨rfl,hd1,ha1⟩;have DR:=Ld hd1;have AP:=Ld ha1;clear hd1 ha1 K1;go_wp2_with fail
 go_loopw [4] (fun k wr=>∃ j:Nat,j≤12∧k=.int .i64 ((j:Int) + 1)∧Hid (∀ i (q:i < j) (q2:i < Fd.z0d.length),Fd.z0d[i] ≠ x)∧Hid (w1=wr)) (fun k _=>13 - (intOf k).toNat)
 case atStart=>exact⟨0,Nat.zero_le _,rfl,fun i q=>absurd q (Nat.not_lt_zero _),by first | exact rfl | exact trivial⟩
 case round =>
  obtain⟨j,hj,rfl,HN,HW⟩:=hrel;have hw:=HW.out;clear HW;subst hw
  rcases (by omega:j=0∨j=1∨j=2∨j=3∨j=4∨j=5∨j=6∨j=7∨j=8∨j=9∨j=10∨j=11∨j=12) with e | e | e | e | e | e | e | e | e | e | e | e | e
  ·subst e
   have e1:(⟨#[74,97,110,70,101,98,77,97,114,65,112,114,77,97,121,74,117,110,74,117,108,65,117,103,83,101,112,79,99,116,78,111,118,68,101,99]⟩:ByteArray).extract 0 3=st [74,97,110]:=rfl
   by_cases hx:x=[74,97,110]
   ·have HE:Hid (out=(1,b1)):=by show _=_;rw[HM.out,Fd.z1q x 0 (by decide) HN.out (by rw[hx];rfl)];rfl
    have e2:([74,97,110] == x)=true:=by rw[hx];rfl
    clear hx;go_wp2_with fail;go_ret;exact⟨by rw[HE.out];rfl,by rw[HE.out];exact DR.out,AP.out,by rw[HE.out];exact(by decide:(0:Int)≤1),by rw[HE.out];exact(by decide:(1:Int)≤12)⟩
   ·have HN2:Hid (∀ i (q:i < 1) (q2:i < Fd.z0d.length),Fd.z0d[i] ≠ x):=by
     intro i q q2
     rcases (by omega:i < 0∨i=0) with q3 | q3
     ·exact HN.out i q3 q2
     ·subst q3;exact fun e=>hx e.symm
    have e2:([74,97,110] == x)=false:=beq_eq_false_iff_ne.2 (fun e=>hx e.symm);clear hx;go_wp2_with fail;go_roundw
    case rel=>exact⟨1,by omega,by first | rfl | go_num,HN2,by first | exact rfl | exact trivial⟩
    case measure=>simp[intOf]
  ·subst e
   have e1:(⟨#[74,97,110,70,101,98,77,97,114,65,112,114,77,97,121,74,117,110,74,117,108,65,117,103,83,101,112,79,99,116,78,111,118,68,101,99]⟩:ByteArray).extract 3 6=st [70,101,98]:=rfl
   by_cases hx:x=[70,101,98]
   ·have HE:Hid (out=(2,b1)):=by show _=_;rw[HM.out,Fd.z1q x 1 (by decide) HN.out (by rw[hx];rfl)];rfl
    have e2:([70,101,98] == x)=true:=by rw[hx];rfl
    clear hx;go_wp2_with fail;go_ret;exact⟨by rw[HE.out];rfl,by rw[HE.out];exact DR.out,AP.out,by rw[HE.out];exact(by decide:(0:Int)≤2),by rw[HE.out];exact(by decide:(2:Int)≤12)⟩
   ·have HN2:Hid (∀ i (q:i < 2) (q2:i < Fd.z0d.length),Fd.z0d[i] ≠ x):=by
     intro i q q2
     rcases (by omega:i < 1∨i=1) with q3 | q3
     ·exact HN.out i q3 q2
     ·subst q3;exact fun e=>hx e.symm
    have e2:([70,101,98] == x)=false:=beq_eq_false_iff_ne.2 (fun e=>hx e.symm);clear hx;go_wp2_with fail;go_roundw
    case rel=>exact⟨2,by omega,by first | rfl | go_num,HN2,by first | exact rfl | exact trivial⟩
    case measure=>simp[intOf]
  ·subst e
   have e1:(⟨#[74,97,110,70,101,98,77,97,114,65,112,114,77,97,121,74,117,110,74,117,108,65,117,103,83,101,112,79,99,116,78,111,118,68,101,99]⟩:ByteArray).extract 6 9=st [77,97,114]:=rfl
   by_cases hx:x=[77,97,114]
   ·have HE:Hid (out=(3,b1)):=by show _=_;rw[HM.out,Fd.z1q x 2 (by decide) HN.out (by rw[hx];rfl)];rfl
    have e2:([77,97,114] == x)=true:=by rw[hx];rfl
    clear hx;go_wp2_with fail;go_ret;exact⟨by rw[HE.out];rfl,by rw[HE.out];exact DR.out,AP.out,by rw[HE.out];exact(by decide:(0:Int)≤3),by rw[HE.out];exact(by decide:(3:Int)≤12)⟩
   ·have HN2:Hid (∀ i (q:i < 3) (q2:i < Fd.z0d.length),Fd.z0d[i] ≠ x):=by
     intro i q q2
     rcases (by omega:i < 2∨i=2) with q3 | q3
     ·exact HN.out i q3 q2
     ·subst q3;exact fun e=>hx e.symm
    have e2:([77,97,114] == x)=false:=beq_eq_false_iff_ne.2 (fun e=>hx e.symm);clear hx;go_wp2_with fail;go_roundw
    case rel=>exact⟨3,by omega,by first | rfl | go_num,HN2,by first | exact rfl | exact trivial⟩
    case measure=>simp[intOf]
  ·subst e
   have e1:(⟨#[74,97,110,70,101,98,77,97,114,65,112,114,77,97,121,74,117,110,74,117,108,65,117,103,83,101,112,79,99,116,78,111,118,68,101,99]⟩:ByteArray).extract 9 12=st [65,112,114]:=rfl
   by_cases hx:x=[65,112,114]
   ·have HE:Hid (out=(4,b1)):=by show _=_;rw[HM.out,Fd.z1q x 3 (by decide) HN.out (by rw[hx];rfl)];rfl
    have e2:([65,112,114] == x)=true:=by rw[hx];rfl
    clear hx;go_wp2_with fail;go_ret;exact⟨by rw[HE.out];rfl,by rw[HE.out];exact DR.out,AP.out,by rw[HE.out];exact(by decide:(0:Int)≤4),by rw[HE.out];exact(by decide:(4:Int)≤12)⟩
   ·have HN2:Hid (∀ i (q:i < 4) (q2:i < Fd.z0d.length),Fd.z0d[i] ≠ x):=by
     intro i q q2
     rcases (by omega:i < 3∨i=3) with q3 | q3
     ·exact HN.out i q3 q2
     ·subst q3;exact fun e=>hx e.symm
    have e2:([65,112,114] == x)=false:=beq_eq_false_iff_ne.2 (fun e=>hx e.symm);clear hx;go_wp2_with fail;go_roundw
    case rel=>exact⟨4,by omega,by first | rfl | go_num,HN2,by first | exact rfl | exact trivial⟩
    case measure=>simp[intOf]
  ·subst e
   have e1:(⟨#[74,97,110,70,101,98,77,97,114,65,112,114,77,97,121,74,117,110,74,117,108,65,117,103,83,101,112,79,99,116,78,111,118,68,101,99]⟩:ByteArray).extract 12 15=st [77,97,121]:=rfl
   by_cases hx:x=[77,97,121]
   ·have HE:Hid (out=(5,b1)):=by show _=_;rw[HM.out,Fd.z1q x 4 (by decide) HN.out (by rw[hx];rfl)];rfl
    have e2:([77,97,121] == x)=true:=by rw[hx];rfl
    clear hx;go_wp2_with fail;go_ret;exact⟨by rw[HE.out];rfl,by rw[HE.out];exact DR.out,AP.out,by rw[HE.out];exact(by decide:(0:Int)≤5),by rw[HE.out];exact(by decide:(5:Int)≤12)⟩
   ·have HN2:Hid (∀ i (q:i < 5) (q2:i < Fd.z0d.length),Fd.z0d[i] ≠ x):=by
     intro i q q2
     rcases (by omega:i < 4∨i=4) with q3 | q3
     ·exact HN.out i q3 q2
     ·subst q3;exact fun e=>hx e.symm
    have e2:([77,97,121] == x)=false:=beq_eq_false_iff_ne.2 (fun e=>hx e.symm);clear hx;go_wp2_with fail;go_roundw
    case rel=>exact⟨5,by omega,by first | rfl | go_num,HN2,by first | exact rfl | exact trivial⟩
    case measure=>simp[intOf]
  ·subst e
   have e1:(⟨#[74,97,110,70,101,98,77,97,114,65,112,114,77,97,121,74,117,110,74,117,108,65,117,103,83,101,112,79,99,116,78,111,118,68,101,99]⟩:ByteArray).extract 15 18=st [74,117,110]:=rfl
   by_cases hx:x=[74,117,110]
   ·have HE:Hid (out=(6,b1)):=by show _=_;rw[HM.out,Fd.z1q x 5 (by decide) HN.out (by rw[hx];rfl)];rfl
    have e2:([74,117,110] == x)=true:=by rw[hx];rfl
    clear hx;go_wp2_with fail;go_ret;exact⟨by rw[HE.out];rfl,by rw[HE.out];exact DR.out,AP.out,by rw[HE.out];exact(by decide:(0:Int)≤6),by rw[HE.out];exact(by decide:(6:Int)≤12)⟩
   ·have HN2:Hid (∀ i (q:i < 6) (q2:i < Fd.z0d.length),Fd.z0d[i] ≠ x):=by
     intro i q q2
     rcases (by omega:i < 5∨i=5) with q3 | q3
     ·exact HN.out i q3 q2
     ·subst q3;exact fun e=>hx e.symm
    have e2:([74,117,110] == x)=false:=beq_eq_false_iff_ne.2 (fun e=>hx e.symm);clear hx;go_wp2_with fail;go_roundw
    case rel=>exact⟨6,by omega,by first | rfl | go_num,HN2,by first | exact rfl | exact trivial⟩
    case measure=>simp[intOf]
  ·subst e
   have e1:(⟨#[74,97,110,70,101,98,77,97,114,65,112,114,77,97,121,74,117,110,74,117,108,65,117,103,83,101,112,79,99,116,78,111,118,68,101,99]⟩:ByteArray).extract 18 21=st [74,117,108]:=rfl
   by_cases hx:x=[74,117,108]
   ·have HE:Hid (out=(7,b1)):=by show _=_;rw[HM.out,Fd.z1q x 6 (by decide) HN.out (by rw[hx];rfl)];rfl
    have e2:([74,117,108] == x)=true:=by rw[hx];rfl
    clear hx;go_wp2_with fail;go_ret;exact⟨by rw[HE.out];rfl,by rw[HE.out];exact DR.out,AP.out,by rw[HE.out];exact(by decide:(0:Int)≤7),by rw[HE.out];exact(by decide:(7:Int)≤12)⟩
   ·have HN2:Hid (∀ i (q:i < 7) (q2:i < Fd.z0d.length),Fd.z0d[i] ≠ x):=by
     intro i q q2
     rcases (by omega:i < 6∨i=6) with q3 | q3
     ·exact HN.out i q3 q2
     ·subst q3;exact fun e=>hx e.symm
    have e2:([74,117,108] == x)=false:=beq_eq_false_iff_ne.2 (fun e=>hx e.symm);clear hx;go_wp2_with fail;go_roundw
    case rel=>exact⟨7,by omega,by first | rfl | go_num,HN2,by first | exact rfl | exact trivial⟩
    case measure=>simp[intOf]
  ·subst e
   have e1:(⟨#[74,97,110,70,101,98,77,97,114,65,112,114,77,97,121,74,117,110,74,117,108,65,117,103,83,101,112,79,99,116,78,111,118,68,101,99]⟩:ByteArray).extract 21 24=st [65,117,103]:=rfl
   by_cases hx:x=[65,117,103]
   ·have HE:Hid (out=(8,b1)):=by show _=_;rw[HM.out,Fd.z1q x 7 (by decide) HN.out (by rw[hx];rfl)];rfl
    have e2:([65,117,103] == x)=true:=by rw[hx];rfl
    clear hx;go_wp2_with fail;go_ret;exact⟨by rw[HE.out];rfl,by rw[HE.out];exact DR.out,AP.out,by rw[HE.out];exact(by decide:(0:Int)≤8),by rw[HE.out];exact(by decide:(8:Int)≤12)⟩
   ·have HN2:Hid (∀ i (q:i < 8) (q2:i < Fd.z0d.length),Fd.z0d[i] ≠ x):=by
     intro i q q2
     rcases (by omega:i < 7∨i=7) with q3 | q3
     ·exact HN.out i q3 q2
     ·subst q3;exact fun e=>hx e.symm
    have e2:([65,117,103] == x)=false:=beq_eq_false_iff_ne.2 (fun e=>hx e.symm);clear hx;go_wp2_with fail;go_roundw
    case rel=>exact⟨8,by omega,by first | rfl | go_num,HN2,by first | exact rfl | exact trivial⟩
    case measure=>simp[intOf]
  ·subst e
   have e1:(⟨#[74,97,110,70,101,98,77,97,114,65,112,114,77,97,121,74,117,110,74,117,108,65,117,103,83,101,112,79,99,116,78,111,118,68,101,99]⟩:ByteArray).extract 24 27=st [83,101,112]:=rfl
   by_cases hx:x=[83,101,112]
   ·have HE:Hid (out=(9,b1)):=by show _=_;rw[HM.out,Fd.z1q x 8 (by decide) HN.out (by rw[hx];rfl)];rfl
    have e2:([83,101,112] == x)=true:=by rw[hx];rfl
    clear hx;go_wp2_with fail;go_ret;exact⟨by rw[HE.out];rfl,by rw[HE.out];exact DR.out,AP.out,by rw[HE.out];exact(by decide:(0:Int)≤9),by rw[HE.out];exact(by decide:(9:Int)≤12)⟩
   ·have HN2:Hid (∀ i (q:i < 9) (q2:i < Fd.z0d.length),Fd.z0d[i] ≠ x):=by
     intro i q q2
     rcases (by omega:i < 8∨i=8) with q3 | q3
     ·exact HN.out i q3 q2
     ·subst q3;exact fun e=>hx e.symm
    have e2:([83,101,112] == x)=false:=beq_eq_false_iff_ne.2 (fun e=>hx e.symm);clear hx;go_wp2_with fail;go_roundw
    case rel=>exact⟨9,by omega,by first | rfl | go_num,HN2,by first | exact rfl | exact trivial⟩
    case measure=>simp[intOf]
  ·subst e
   have e1:(⟨#[74,97,110,70,101,98,77,97,114,65,112,114,77,97,121,74,117,110,74,117,108,65,117,103,83,101,112,79,99,116,78,111,118,68,101,99]⟩:ByteArray).extract 27 30=st [79,99,116]:=rfl
   by_cases hx:x=[79,99,116]
   ·have HE:Hid (out=(10,b1)):=by show _=_;rw[HM.out,Fd.z1q x 9 (by decide) HN.out (by rw[hx];rfl)];rfl
    have e2:([79,99,116] == x)=true:=by rw[hx];rfl
    clear hx;go_wp2_with fail;go_ret;exact⟨by rw[HE.out];rfl,by rw[HE.out];exact DR.out,AP.out,by rw[HE.out];exact(by decide:(0:Int)≤10),by rw[HE.out];exact(by decide:(10:Int)≤12)⟩
   ·have HN2:Hid (∀ i (q:i < 10) (q2:i < Fd.z0d.length),Fd.z0d[i] ≠ x):=by
     intro i q q2
     rcases (by omega:i < 9∨i=9) with q3 | q3
     ·exact HN.out i q3 q2
     ·subst q3;exact fun e=>hx e.symm
    have e2:([79,99,116] == x)=false:=beq_eq_false_iff_ne.2 (fun e=>hx e.symm);clear hx;go_wp2_with fail;go_roundw
    case rel=>exact⟨10,by omega,by first | rfl | go_num,HN2,by first | exact rfl | exact trivial⟩
    case measure=>simp[intOf]
  ·subst e
   have e1:(⟨#[74,97,110,70,101,98,77,97,114,65,112,114,77,97,121,74,117,110,74,117,108,65,117,103,83,101,112,79,99,116,78,111,118,68,101,99]⟩:ByteArray).extract 30 33=st [78,111,118]:=rfl
   by_cases hx:x=[78,111,118]
   ·have HE:Hid (out=(11,b1)):=by show _=_;rw[HM.out,Fd.z1q x 10 (by decide) HN.out (by rw[hx];rfl)];rfl
    have e2:([78,111,118] == x)=true:=by rw[hx];rfl
    clear hx;go_wp2_with fail;go_ret;exact⟨by rw[HE.out];rfl,by rw[HE.out];exact DR.out,AP.out,by rw[HE.out];exact(by decide:(0:Int)≤11),by rw[HE.out];exact(by decide:(11:Int)≤12)⟩
   ·have HN2:Hid (∀ i (q:i < 11) (q2:i < Fd.z0d.length),Fd.z0d[i] ≠ x):=by
     intro i q q2
     rcases (by omega:i < 10∨i=10) with q3 | q3
     ·exact HN.out i q3 q2
     ·subst q3;exact fun e=>hx e.symm
    have e2:([78,111,118] == x)=false:=beq_eq_false_iff_ne.2 (fun e=>hx e.symm);clear hx;go_wp2_with fail;go_roundw
    case rel=>exact⟨11,by omega,by first | rfl | go_num,HN2,by first | exact rfl | exact trivial⟩
    case measure=>simp[intOf]
  ·subst e
   have e1:(⟨#[74,97,110,70,101,98,77,97,114,65,112,114,77,97,121,74,117,110,74,117,108,65,117,103,83,101,112,79,99,116,78,111,118,68,101,99]⟩:ByteArray).extract 33 36=st [68,101,99]:=rfl
   by_cases hx:x=[68,101,99]
   ·have HE:Hid (out=(12,b1)):=by show _=_;rw[HM.out,Fd.z1q x 11 (by decide) HN.out (by rw[hx];rfl)];rfl
    have e2:([68,101,99] == x)=true:=by rw[hx];rfl
    clear hx;go_wp2_with fail;go_ret;exact⟨by rw[HE.out];rfl,by rw[HE.out];exact DR.out,AP.out,by rw[HE.out];exact(by decide:(0:Int)≤12),by rw[HE.out];exact(by decide:(12:Int)≤12)⟩
   ·have HN2:Hid (∀ i (q:i < 12) (q2:i < Fd.z0d.length),Fd.z0d[i] ≠ x):=by
     intro i q q2
     rcases (by omega:i < 11∨i=11) with q3 | q3
     ·exact HN.out i q3 q2
     ·subst q3;exact fun e=>hx e.symm
    have e2:([68,101,99] == x)=false:=beq_eq_false_iff_ne.2 (fun e=>hx e.symm);clear hx;go_wp2_with fail;go_roundw
    case rel=>exact⟨12,by omega,by first | rfl | go_num,HN2,by first | exact rfl | exact trivial⟩
    case measure=>simp[intOf]
  ·subst e
   have HE:Hid (out=(0,⟨b1.s,true⟩)):=by show _=_;rw[HM.out,Fd.idx_none x (fun i q=>HN.out i (by have:Fd.z0d.length=12:=rfl;omega) q)]
   have c1:w1.cell? ⟨R,1,none⟩=some (.bool b1.short):=Blk.cell DR.out 1;have f1:w1.frozen? ⟨R,1,none⟩=false:=Blk.frozen DR.out 1;go_wp2_with fail;go_ret;exact⟨by rw[HE.out];rfl,by rw[HE.out];exact Blk.set_ DR.out 1 _,AP.out.setCell (p:=⟨R,1,none⟩) rfl _,by rw[HE.out];exact(by decide:(0:Int)≤0),by rw[HE.out];exact(by decide:(0:Int)≤12)⟩
end Go.Proofs.YtjonkbdldebkiaaGreatDoor
namespace Fd
theorem z7d (of:Bs) (r:Dr):(V4 of r).2.s.length≤r.s.length:=by
 obtain⟨s,sh⟩:=r
 cases s with
 | nil=>exact Lr
 | cons c t =>
  show (if of.contains c then (c,(⟨t,sh⟩:Dr)) else (0,⟨[],true⟩)).2.s.length≤(c :: t).length
  split
  ·exact Nat.le_succ _
  ·exact Nat.zero_le _
theorem j4y:∀ (k:Nat) (n:Int) (r:Dr),(digD k n r).2.s.length≤r.s.length
 | 0,_,_=>Lr
 | k + 1,n,r=>Nat.le_trans (j4y k _ _) (z7d tenD r)
theorem j1r (k:Nat) (m:Int) (r:Dr):(Y0 k m r).2.s.length≤r.s.length:=j4y k 0 r
theorem j7o (r:Dr):(z1w r).2.s.length≤r.s.length:=by
 unfold z1w
 split
 ·show (r.s.drop 3).length≤_;rw[List.length_drop];omega
 ·exact Nat.zero_le _
def webE (y m d c:Int × Dr):Int × Int :=
 if c.2.s=[90] then z7j y.1 m.1 d.1 c.1 0 ⟨[],c.2.short⟩ else z7j y.1 m.1 d.1 c.1 (z2u [58] c.2).1 (z2u [58] c.2).2
theorem webE_is (y m d c:Int × Dr):webE y m d c=if c.2.s=[90] then z7j y.1 m.1 d.1 c.1 0 ⟨[],c.2.short⟩ else z7j y.1 m.1 d.1 c.1 (z2u [58] c.2).1 (z2u [58] c.2).2:=rfl
def mailE (y m d c:Int × Dr) (z:Dr):Int × Int :=
 if z.s=[71,77,84]∨z.s=[85,84] then z7j y.1 m.1 d.1 c.1 0 ⟨[],z.short⟩ else z7j y.1 m.1 d.1 c.1 (z2u [] z).1 (z2u [] z).2
def q1a (s:Bs):Dr:=match s with
 | []=>⟨s,false⟩
 | c :: _=>if z2i c then (V4 [32] (V4 [44] (z1w ⟨s,false⟩).2).2).2 else ⟨s,false⟩
def manyD (r:Dr):Nat:=match r.s with
 | _ :: c :: _=>if c=32 then 1 else 2
 | _=>1
def mailF (b:Dr) (many:Nat):Int × Int :=
 let d:=Y0 many 99 b
 let m:=z4v (V4 [32] d.2).2
 let y:=Y0 4 9999 (V4 [32] m.2).2
 let c:=z4d (V4 [32] y.2).2
 mailE y m d c (V4 [32] c.2).2
theorem mail_is (s:Bs):q6e s=mailF (q1a s) (manyD (q1a s)):=by
 cases s <;> rfl
end Fd
namespace Go.Proofs.YtjonkbdldebkiaaGreatDoor
open Go.Proofs.Tryz Go.RowKit
theorem j4r (s:List UInt8) (w:World) :
  Calls prog 59 #[.string (st s)] w fun e w'=>e=.returned (.tuple #[.int .i64 (Fd.webD s).1,.int .i64 (Fd.webD s).2])∧Below w.heap.size w w':=by
 have hst:∀ l:List UInt8,(st l).toList=l:=fun l=>Lib.toList_data _
 have HC:Hid (Fd.webD s=Fd.webE (Fd.Y0 4 9999 ⟨s,false⟩) (Fd.Y0 2 99 (Fd.V4 [45] (Fd.Y0 4 9999 ⟨s,false⟩).2).2) (Fd.Y0 2 99 (Fd.V4 [45] (Fd.Y0 2 99 (Fd.V4 [45] (Fd.Y0 4 9999 ⟨s,false⟩).2).2).2).2) (Fd.z4d (Fd.V4 [84] (Fd.Y0 2 99 (Fd.V4 [45] (Fd.Y0 2 99 (Fd.V4 [45] (Fd.Y0 4 9999 ⟨s,false⟩).2).2).2).2).2).2)):=rfl;generalize Fd.webD s=out at HC ⊢;have DR0:Hid (DrS (w.alloc (.cells #[.string (st s),.bool false] 160)) w.heap.size ⟨s,false⟩):=Blk.new w 160 #[.string (st s),.bool false];have BL0:=Ld ((Below.refl w.heap.size w).alloc (Lr) (.cells #[.string (st s),.bool false] 160));go_enter func59,ntmps59;go_upto_region 2 with fail;generalize (w.alloc (.cells #[.string (st s),.bool false] 160))=w0 at DR0 BL0 ⊢;have AP0:Hid (Ap (fun b=>b=w.heap.size) w0 w0):=Ap.refl _ _;have K1:=Ld (z1g 4 9999 ⟨s,false⟩ w.heap.size w0 DR0.out (by decide));generalize (Fd.Y0 4 9999 ⟨s,false⟩)=x1 at K1 HC;obtain⟨a1,b1⟩:=x1;simp only at K1 HC;go_wp2_with fail;refine K1.out.mono ?_;rintro e w1 ⟨rfl,hd,ha,p1a,p1b⟩;have DR1:=Ld hd;have AP1:=Ld (AP0.out.trans ha);clear hd ha K1 DR0 AP0;have K2:=Ld (z1t [45] b1 w.heap.size w1 DR1.out (by decide));generalize Fd.V4 [45] b1=x2 at K2 HC;obtain⟨g2,b2⟩:=x2;simp only at K2 HC;go_wp2_with fail;refine K2.out.mono ?_;rintro e w2 ⟨rfl,hd,ha⟩;have DR2:=Ld hd;have AP2:=Ld (AP1.out.trans ha);clear hd ha K2 DR1 AP1;have K3:=Ld (z1g 2 99 b2 w.heap.size w2 DR2.out (by decide));generalize Fd.Y0 2 99 b2=x3 at K3 HC;obtain⟨a3,b3⟩:=x3;simp only at K3 HC;go_wp2_with fail;refine K3.out.mono ?_;rintro e w3 ⟨rfl,hd,ha,p3a,p3b⟩;have DR3:=Ld hd;have AP3:=Ld (AP2.out.trans ha);clear hd ha K3 DR2 AP2;have K4:=Ld (z1t [45] b3 w.heap.size w3 DR3.out (by decide));generalize Fd.V4 [45] b3=x4 at K4 HC;obtain⟨g4,b4⟩:=x4;simp only at K4 HC;go_wp2_with fail;refine K4.out.mono ?_;rintro e w4 ⟨rfl,hd,ha⟩;have DR4:=Ld hd;have AP4:=Ld (AP3.out.trans ha);clear hd ha K4 DR3 AP3;have K5:=Ld (z1g 2 99 b4 w.heap.size w4 DR4.out (by decide));generalize Fd.Y0 2 99 b4=x5 at K5 HC;obtain⟨a5,b5⟩:=x5;simp only at K5 HC;go_wp2_with fail;refine K5.out.mono ?_;rintro e w5 ⟨rfl,hd,ha,p5a,p5b⟩;have DR5:=Ld hd;have AP5:=Ld (AP4.out.trans ha);clear hd ha K5 DR4 AP4;have K6:=Ld (z1t [84] b5 w.heap.size w5 DR5.out (by decide));generalize Fd.V4 [84] b5=x6 at K6 HC;obtain⟨g6,b6⟩:=x6;simp only at K6 HC;go_wp2_with fail;refine K6.out.mono ?_;rintro e w6 ⟨rfl,hd,ha⟩;have DR6:=Ld hd;have AP6:=Ld (AP5.out.trans ha);clear hd ha K6 DR5 AP5;have K7:=Ld (q9d b6 w.heap.size w6 DR6.out);generalize Fd.z4d b6=x7 at K7 HC;obtain⟨a7,b7⟩:=x7;simp only at K7 HC;go_wp2_with fail;refine K7.out.mono ?_;rintro e w7 ⟨rfl,hd,ha,p7a,p7b⟩;have DR7:=Ld hd;have AP7:=Ld (AP6.out.trans ha);clear hd ha K7 DR6 AP6;rw[Fd.webE_is] at HC;simp only at HC;have BL7:=Ld (BL0.out.trans (AP7.out.below BL0.out.size (fun k q e=>by have e:k=w.heap.size:=e;omega)));have k0:w7.cell? ⟨w.heap.size,0,none⟩=some (.string (st b7.s)):=Blk.cell DR7.out 0;have f0:w7.frozen? ⟨w.heap.size,0,none⟩=false:=Blk.frozen DR7.out 0
 by_cases hz:b7.s=[90]
 ·have e1:(b7.s == [90])=true:=beq_iff_eq.2 hz
  rw[if_pos hz] at HC;clear hz;have DZ:Hid (DrS (w7.setCell ⟨w.heap.size,0,none⟩ (.string (st []))) w.heap.size ⟨[],b7.short⟩):=Blk.set_ DR7.out 0 _;have BZ:=Ld (BL7.out.setCell (p:=⟨w.heap.size,0,none⟩) (Lr) (.string (st [])));have KT:=Ld (q4b a1 a3 a5 a7 0 p1a p1b p3a p3b p5a p5b p7a p7b (by decide) (by decide) ⟨[],b7.short⟩ w.heap.size _ DZ.out);go_wp2_with fail;refine KT.out.mono ?_;rintro e w8 ⟨rfl,hb8⟩;have B8:=Ld (BZ.out.trans (hb8.mono BZ.out.size));clear hb8 KT;go_wp2_with fail;go_ret2;exact⟨by rw[HC.out];rfl,B8.out⟩
 ·have e1:(b7.s == [90])=false:=beq_eq_false_iff_ne.2 hz
  rw[if_neg hz] at HC;clear hz;have K8:=Ld (q4c b7 w.heap.size w7 DR7.out);generalize Fd.z2u [58] b7=x8 at K8 HC;obtain⟨a8,b8⟩:=x8;simp only at K8 HC;go_wp2_with fail;refine K8.out.mono ?_;rintro e w8 ⟨rfl,hd,ha,p8a,p8b⟩;have DR8:=Ld hd;have BL8:=Ld (BL7.out.trans (ha.below BL7.out.size (fun k q e=>by have e:k=w.heap.size:=e;omega)));clear hd ha K8;have KT:=Ld (q4b a1 a3 a5 a7 a8 p1a p1b p3a p3b p5a p5b p7a p7b p8a p8b b8 w.heap.size w8 DR8.out);go_wp2_with fail;refine KT.out.mono ?_;rintro e w9 ⟨rfl,hb9⟩;have B9:=Ld (BL8.out.trans (hb9.mono BL8.out.size));clear hb9 KT;go_wp2_with fail;go_ret2;exact⟨by rw[HC.out];rfl,B9.out⟩
end Go.Proofs.YtjonkbdldebkiaaGreatDoor
namespace Fd
theorem mailF_is (b:Dr) (many:Nat):mailF b many=mailE (Y0 4 9999 (V4 [32] (z4v (V4 [32] (Y0 many 99 b).2).2).2).2) (z4v (V4 [32] (Y0 many 99 b).2).2) (Y0 many 99 b) (z4d (V4 [32] (Y0 4 9999 (V4 [32] (z4v (V4 [32] (Y0 many 99 b).2).2).2).2).2).2) (V4 [32] (z4d (V4 [32] (Y0 4 9999 (V4 [32] (z4v (V4 [32] (Y0 many 99 b).2).2).2).2).2).2).2).2:=rfl
theorem mailE_is (y m d c:Int × Dr) (z:Dr):mailE y m d c z=if z.s=[71,77,84]∨z.s=[85,84] then z7j y.1 m.1 d.1 c.1 0 ⟨[],z.short⟩ else z7j y.1 m.1 d.1 c.1 (z2u [] z).1 (z2u [] z).2:=rfl
theorem j6e (s:Bs):(q1a s).s.length≤s.length:=by
 cases s with
 | nil=>exact Lr
 | cons c t =>
  show (if z2i c then (V4 [32] (V4 [44] (z1w ⟨c :: t,false⟩).2).2).2 else (⟨c :: t,false⟩:Dr)).s.length≤_
  split
  ·exact Nat.le_trans (z7d _ _) (Nat.le_trans (z7d _ _) (j7o _))
  ·exact Lr
theorem many_or (b:Dr):manyD b=1∨manyD b=2:=by
 obtain⟨s,sh⟩:=b
 match s with
 | []=>exact .inl rfl
 | [_]=>exact .inl rfl
 | _ :: c :: _ =>
  show (if c=32 then 1 else 2)=1∨(if c=32 then 1 else 2)=2
  split
  ·exact .inl rfl
  ·exact .inr rfl
end Fd
namespace Go.Proofs.YtjonkbdldebkiaaGreatDoor
open Go.Proofs.Tryz Go.RowKit
theorem j4n (s:List UInt8) (w:World) (hs:s.length≤1000000) :
  Calls prog 60 #[.string (st s)] w fun e w'=>e=.returned (.tuple #[.int .i64 (Fd.q6e s).1,.int .i64 (Fd.q6e s).2])∧Below w.heap.size w w':=by
 have hst:∀ l:List UInt8,(st l).toList=l:=fun l=>Lib.toList_data _
 have HC:=Ld (Fd.mail_is s);have hbl:=Fd.j6e s;have hmn:=Fd.many_or (Fd.q1a s);have H0:Hid (Fd.q1a s=Fd.q1a s):=rfl;generalize Fd.q6e s=out at HC ⊢;have DR0:Hid (DrS (w.alloc (.cells #[.string (st s),.bool false] 160)) w.heap.size ⟨s,false⟩):=Blk.new w 160 #[.string (st s),.bool false];have BL0:=Ld ((Below.refl w.heap.size w).alloc (Lr) (.cells #[.string (st s),.bool false] 160));have HML:Hid (∀ b0,Fd.q1a s=b0→b0.s.length≤1000000):=fun b0 e=>by rw[← e];omega
 go_enter func60,ntmps60;go_upto_region 2 with fail;generalize (w.alloc (.cells #[.string (st s),.bool false] 160))=w0 at DR0 BL0 ⊢
 go_cut [20] (fun b wx=>b=.bool (match s with | []=>false | c :: _=>Fd.z2i c)∧w0=wx)
 case first =>
  cases s with
  | nil =>
   go_wp2_with fail;go_meet
   case rel=>exact⟨rfl,rfl⟩
  | cons c t =>
   have hS0:0 < (st (c :: t)).size:=by rw[Z4];simp
   have hget:∀ q:0 < (st (c :: t)).size,(st (c :: t))[0]'q=c:=fun _=>rfl
   have HL:=Ld (q5y c w0);go_wp2_with fail;refine HL.out.mono ?_;rintro e wx ⟨rfl,hwx⟩;subst wx;go_wp2_with fail;go_meet
   case rel=>exact⟨rfl,rfl⟩
 case rest =>
 as_aux_lemma =>
 obtain⟨rfl,hwx⟩:=hcut;subst hwx;go_upto_if 20 with fail
 go_cut [] (fun wx=>Hid (DrS wx w.heap.size (Fd.q1a s))∧Hid (Below w.heap.size w wx))
 case first =>
  cases s with
  | nil =>
   go_wp2_with fail;go_meet
   case rel=>exact⟨DR0,BL0⟩
  | cons c t =>
   have HE:Hid (Fd.q1a (c :: t)=if Fd.z2i c then (Fd.V4 [32] (Fd.V4 [44] (Fd.z1w ⟨c :: t,false⟩).2).2).2 else ⟨c :: t,false⟩):=rfl;obtain⟨b,hb⟩:∃ b,Fd.z2i c=b:=⟨_,rfl⟩;rw[hb] at HE;simp only [hb];clear hb
   cases b with
   | false =>
    go_wp2_with fail;go_meet
    case rel=>exact⟨by rw[HE.out];exact DR0,BL0⟩
   | true =>
    have K1:=Ld (q9e ⟨c :: t,false⟩ w.heap.size w0 DR0.out hs);generalize Fd.z1w ⟨c :: t,false⟩=x1 at K1 HE;go_wp2_with fail;refine K1.out.mono ?_;rintro e w1 ⟨rfl,hd,ha⟩;have DR1:=Ld hd;have BL1:=Ld (BL0.out.trans (ha.below BL0.out.size (fun k q e=>by have e:k=w.heap.size:=e;omega)));clear hd ha K1;have K2:=Ld (z1t [44] x1.2 w.heap.size w1 DR1.out (by decide));generalize Fd.V4 [44] x1.2=x2 at K2 HE;go_wp2_with fail;refine K2.out.mono ?_;rintro e w2 ⟨rfl,hd,ha⟩;have DR2:=Ld hd;have BL2:=Ld (BL1.out.trans (ha.below BL1.out.size (fun k q e=>by have e:k=w.heap.size:=e;omega)));clear hd ha K2;have K3:=Ld (z1t [32] x2.2 w.heap.size w2 DR2.out (by decide));go_wp2_with fail;refine K3.out.mono ?_;rintro e w3 ⟨rfl,hd,ha⟩;have DR3:Hid (DrS w3 w.heap.size (Fd.q1a (c :: t))):=by rw[HE.out];exact hd
    have BL3:=Ld (BL2.out.trans (ha.below BL2.out.size (fun k q e=>by have e:k=w.heap.size:=e;omega)));clear hd ha K3;go_wp2_with fail;go_meet
    case rel=>exact⟨DR3,BL3⟩
 case rest =>
 as_aux_lemma =>
 obtain⟨DRA,BLA⟩:=hcut;obtain⟨wa,hwa⟩:∃ y,y=wc:=⟨_,rfl⟩;subst hwa;clear DR0 BL0 H0;have HM1:=Ld (HML.out _ rfl);generalize Fd.q1a s=b0 at HC DRA HM1 hmn;clear HML hbl;obtain⟨mm,hmm⟩:∃ m,Fd.manyD b0=m:=⟨_,rfl⟩;have HMM:=Ld hmm;rw[hmm] at HC hmn;clear hmm;obtain⟨s0,sh0⟩:=b0;have k0:wa.cell? ⟨w.heap.size,0,none⟩=some (.string (st s0)):=Blk.cell DRA.out 0;go_upto_region 7 with fail
 go_cut [40] (fun b wx=>b=.bool (decide (mm=2))∧wa=wx)
 case first =>
  cases s0 with
  | nil =>
   have HB:Hid (decide (mm=2)=false):=by show _=_;rw[← HMM.out];rfl
   go_wp2_with fail;go_meet
   case rel=>exact⟨by rw[HB.out],rfl⟩
  | cons c1 t1 =>
   cases t1 with
   | nil =>
    have HB:Hid (decide (mm=2)=false):=by show _=_;rw[← HMM.out];rfl
    have hz:(st [c1]).size=1:=rfl;go_wp2_with fail;go_meet
    case rel=>exact⟨by rw[HB.out],rfl⟩
   | cons c2 t2 =>
    have hS1:1 < (st (c1 :: c2 :: t2)).size:=by rw[Z4];simp
    have hget:∀ q:1 < (st (c1 :: c2 :: t2)).size,(st (c1 :: c2 :: t2))[1]'q=c2:=fun _=>rfl
    by_cases h32:c2=32
    ·have HB:Hid (decide (mm=2)=false):=by show _=_;rw[← HMM.out,h32];rfl
     have e1:((c2.toNat:Int) == 32)=true:=by rw[h32];rfl
     clear h32;go_wp2_with fail;go_meet
     case rel=>exact⟨by rw[HB.out];first | rfl | (rw[bne,e1];rfl),rfl⟩
    ·have HB:Hid (decide (mm=2)=true):=decide_eq_true (HMM.out.symm.trans (by show (if c2=32 then 1 else 2)=2;rw[if_neg h32]))
     have e1:((c2.toNat:Int) == 32)=false:=by rw[beq_eq_false_iff_ne];intro q;exact h32 (UInt8.toNat_inj.1 (by show c2.toNat=32;omega))
     clear h32;go_wp2_with fail;go_meet
     case rel=>exact⟨by rw[HB.out];first | rfl | (rw[bne,e1];rfl),rfl⟩
 case rest =>
 as_aux_lemma =>
 obtain⟨rfl,hwx⟩:=hcut;subst hwx;go_upto_if 40 with fail
 go_cut [5] (fun v wx=>v=.int .i64 (mm:Nat)∧wa=wx)
 case first =>
  have HN:=Ld hmn
  rcases HN.out with e | e
  ·subst e
   go_wp2_with fail;go_meet
   case rel=>exact⟨rfl,rfl⟩
  ·subst e
   go_wp2_with fail;go_meet
   case rel=>exact⟨rfl,rfl⟩
 case rest =>
 as_aux_lemma =>
 obtain⟨rfl,hwx⟩:=hcut;subst hwx;have hm4:mm≤4:=by omega
 rw[Fd.mailF_is] at HC;clear k0 hmn HMM;have AP0:Hid (Ap (fun b=>b=w.heap.size) wa wa):=Ap.refl _ _;have DR0:=DRA;have HL1:=Ld (Nat.le_trans (Fd.j1r mm 99 ⟨s0,sh0⟩) HM1.out);have K1:=Ld (z1g mm 99 ⟨s0,sh0⟩ w.heap.size wa DR0.out hm4);generalize Fd.Y0 mm 99 ⟨s0,sh0⟩=x1 at K1 HC HL1;obtain⟨a1,b1⟩:=x1;simp only at K1 HC HL1;go_wp2_with fail;refine K1.out.mono ?_;rintro e w1 ⟨rfl,hd,ha,p1a,p1b⟩;have DR1:=Ld hd;have AP1:=Ld (AP0.out.trans ha);clear hd ha K1 DR0 AP0;have HL2:=Ld (Nat.le_trans (Fd.z7d [32] b1) HL1.out);have K2:=Ld (z1t [32] b1 w.heap.size w1 DR1.out (by decide));generalize Fd.V4 [32] b1=x2 at K2 HC HL2;obtain⟨g2,b2⟩:=x2;simp only at K2 HC HL2;go_wp2_with fail;refine K2.out.mono ?_;rintro e w2 ⟨rfl,hd,ha⟩;have DR2:=Ld hd;have AP2:=Ld (AP1.out.trans ha);clear hd ha K2 DR1 AP1;have K3:=Ld (dr_month b2 w.heap.size w2 DR2.out HL2.out);generalize Fd.z4v b2=x3 at K3 HC;obtain⟨a3,b3⟩:=x3;simp only at K3 HC;go_wp2_with fail;refine K3.out.mono ?_;rintro e w3 ⟨rfl,hd,ha,p3a,p3b⟩;have DR3:=Ld hd;have AP3:=Ld (AP2.out.trans ha);clear hd ha K3 DR2 AP2;have K4:=Ld (z1t [32] b3 w.heap.size w3 DR3.out (by decide));generalize Fd.V4 [32] b3=x4 at K4 HC;obtain⟨g4,b4⟩:=x4;simp only at K4 HC;go_wp2_with fail;refine K4.out.mono ?_;rintro e w4 ⟨rfl,hd,ha⟩;have DR4:=Ld hd;have AP4:=Ld (AP3.out.trans ha);clear hd ha K4 DR3 AP3;have K5:=Ld (z1g 4 9999 b4 w.heap.size w4 DR4.out (by decide));generalize Fd.Y0 4 9999 b4=x5 at K5 HC;obtain⟨a5,b5⟩:=x5;simp only at K5 HC;go_wp2_with fail;refine K5.out.mono ?_;rintro e w5 ⟨rfl,hd,ha,p5a,p5b⟩;have DR5:=Ld hd;have AP5:=Ld (AP4.out.trans ha);clear hd ha K5 DR4 AP4;have K6:=Ld (z1t [32] b5 w.heap.size w5 DR5.out (by decide));generalize Fd.V4 [32] b5=x6 at K6 HC;obtain⟨g6,b6⟩:=x6;simp only at K6 HC;go_wp2_with fail;refine K6.out.mono ?_;rintro e w6 ⟨rfl,hd,ha⟩;have DR6:=Ld hd;have AP6:=Ld (AP5.out.trans ha);clear hd ha K6 DR5 AP5;have K7:=Ld (q9d b6 w.heap.size w6 DR6.out);generalize Fd.z4d b6=x7 at K7 HC;obtain⟨a7,b7⟩:=x7;simp only at K7 HC;go_wp2_with fail;refine K7.out.mono ?_;rintro e w7 ⟨rfl,hd,ha,p7a,p7b⟩;have DR7:=Ld hd;have AP7:=Ld (AP6.out.trans ha);clear hd ha K7 DR6 AP6;have K8:=Ld (z1t [32] b7 w.heap.size w7 DR7.out (by decide));generalize Fd.V4 [32] b7=x8 at K8 HC;obtain⟨g8,b8⟩:=x8;simp only at K8 HC;go_wp2_with fail;refine K8.out.mono ?_;rintro e w8 ⟨rfl,hd,ha⟩;have DR8:=Ld hd;have AP8:=Ld (AP7.out.trans ha);clear hd ha K8 DR7 AP7;rw[Fd.mailE_is] at HC;simp only at HC;have BL8:=Ld (BLA.out.trans (AP8.out.below BLA.out.size (fun k q e=>by have e:k=w.heap.size:=e;omega)));have k0:w8.cell? ⟨w.heap.size,0,none⟩=some (.string (st b8.s)):=Blk.cell DR8.out 0;have f0:w8.frozen? ⟨w.heap.size,0,none⟩=false:=Blk.frozen DR8.out 0;obtain⟨s8,sh8⟩:=b8;simp only at HC k0;go_upto_region 17 with fail
 go_cut [69] (fun b wx=>b=.bool (decide (s8=[71,77,84]∨s8=[85,84]))∧w8=wx)
 case first =>
  by_cases h1:s8=[71,77,84]
  ·have HB:Hid (decide (s8=[71,77,84]∨s8=[85,84])=true):=decide_eq_true (.inl h1)
   have e1:(s8 == [71,77,84])=true:=beq_iff_eq.2 h1;clear h1;go_wp2_with fail;go_meet
   case rel=>exact⟨by rw[HB.out],rfl⟩
  ·have e1:(s8 == [71,77,84])=false:=beq_eq_false_iff_ne.2 h1
   by_cases h2:s8=[85,84]
   ·have HB:Hid (decide (s8=[71,77,84]∨s8=[85,84])=true):=decide_eq_true (.inr h2)
    have e2:(s8 == [85,84])=true:=beq_iff_eq.2 h2;clear h1 h2;go_wp2_with fail;go_meet
    case rel=>exact⟨by rw[HB.out],rfl⟩
   ·have HB:Hid (decide (s8=[71,77,84]∨s8=[85,84])=false):=decide_eq_false (by rintro (q | q);exact h1 q;exact h2 q)
    have e2:(s8 == [85,84])=false:=beq_eq_false_iff_ne.2 h2;clear h1 h2;go_wp2_with fail;go_meet
    case rel=>exact⟨by rw[HB.out],rfl⟩
 case rest =>
 as_aux_lemma =>
 obtain⟨rfl,hwx⟩:=hcut;subst hwx
 by_cases hz:s8=[71,77,84]∨s8=[85,84]
 ·rw[if_pos hz] at HC
  rw[decide_eq_true hz];clear hz;have DZ:Hid (DrS (w8.setCell ⟨w.heap.size,0,none⟩ (.string (st []))) w.heap.size ⟨[],sh8⟩):=Blk.set_ DR8.out 0 _;have BZ:=Ld (BL8.out.setCell (p:=⟨w.heap.size,0,none⟩) (Lr) (.string (st [])));have KT:=Ld (q4b a5 a3 a1 a7 0 p5a p5b p3a (by omega) p1a p1b p7a p7b (by decide) (by decide) ⟨[],sh8⟩ w.heap.size _ DZ.out);go_wp2_with fail;refine KT.out.mono ?_;rintro e w9 ⟨rfl,hb9⟩;have B9:=Ld (BZ.out.trans (hb9.mono BZ.out.size));clear hb9 KT;go_wp2_with fail;go_ret2;exact⟨by rw[HC.out];rfl,B9.out⟩
 ·rw[if_neg hz] at HC
  rw[decide_eq_false hz];clear hz;have K9:=Ld (q5x ⟨s8,sh8⟩ w.heap.size w8 DR8.out);generalize Fd.z2u [] ⟨s8,sh8⟩=x9 at K9 HC;obtain⟨a9,b9⟩:=x9;simp only at K9 HC;go_wp2_with fail;refine K9.out.mono ?_;rintro e w9 ⟨rfl,hd,ha,p9a,p9b⟩;have DR9:=Ld hd;have BL9:=Ld (BL8.out.trans (ha.below BL8.out.size (fun k q e=>by have e:k=w.heap.size:=e;omega)));clear hd ha K9;have KT:=Ld (q4b a5 a3 a1 a7 a9 p5a p5b p3a (by omega) p1a p1b p7a p7b p9a p9b b9 w.heap.size w9 DR9.out);go_wp2_with fail;refine KT.out.mono ?_;rintro e w10 ⟨rfl,hb10⟩;have B10:=Ld (BL9.out.trans (hb10.mono BL9.out.size));clear hb10 KT;go_wp2_with fail;go_ret2;exact⟨by rw[HC.out];rfl,B10.out⟩
end Go.Proofs.YtjonkbdldebkiaaGreatDoor
namespace Fd
theorem j3v (c:UInt8):z2s c=true↔((c.toNat:Int)=9∨(c.toNat:Int)=10∨(c.toNat:Int)=13∨(c.toNat:Int)=32):=Mg.z0x (fun c=>z2s c=true↔((c.toNat:Int)=9∨(c.toNat:Int)=10∨(c.toNat:Int)=13∨(c.toNat:Int)=32)) (by decide +kernel) c
def t1B (c:UInt8):Bool:=(97≤c && c≤122) || (65≤c && c≤90) || c == 95
def t2B (c:UInt8):Bool:=(48≤c && c≤57) || c == 45 || c == 46 || c == 58
theorem j7p (f:Bool) (c:UInt8):z2d f c=(t1B c || (!f && t2B c)):=rfl
theorem t1_iff (c:UInt8):t1B c=true↔((97≤(c.toNat:Int)∧(c.toNat:Int)≤122)∨(65≤(c.toNat:Int)∧(c.toNat:Int)≤90)∨(c.toNat:Int)=95):=Mg.z0x (fun c=>t1B c=true↔((97≤(c.toNat:Int)∧(c.toNat:Int)≤122)∨(65≤(c.toNat:Int)∧(c.toNat:Int)≤90)∨(c.toNat:Int)=95)) (by decide +kernel) c
theorem t2_iff (c:UInt8):t2B c=true↔((48≤(c.toNat:Int)∧(c.toNat:Int)≤57)∨(c.toNat:Int)=45∨(c.toNat:Int)=46∨(c.toNat:Int)=58):=Mg.z0x (fun c=>t2B c=true↔((48≤(c.toNat:Int)∧(c.toNat:Int)≤57)∨(c.toNat:Int)=45∨(c.toNat:Int)=46∨(c.toNat:Int)=58)) (by decide +kernel) c
theorem q5e (s:Bs) (k:Nat) (h:k < s.length):z3g (decide (k=0)) (s.drop k)=(z2d (decide (k=0)) s[k] && z3g (decide (k + 1=0)) (s.drop (k + 1))):=by
 rw[List.drop_eq_getElem_cons h];rfl
end Fd
namespace Go.Proofs.YtjonkbdldebkiaaGreatDoor
open Go.Proofs.Tryz Go.RowKit
theorem q5k (c:UInt8) (w:World) :
  Calls prog 226 #[.int .u8 c.toNat] w fun e w'=>e=.returned (.bool (Fd.z2s c))∧w'=w:=by
 have hb:(c.toNat:Int)≤255:=by have:=c.toNat_lt;omega
 go_enter func226,ntmps226;go_wp2_with fail
 all_goals (go_ret;refine⟨Z8 ?_,rfl⟩;rw[Bool.eq_iff_iff,Fd.j3v];simp;try omega)
theorem z4j (c:UInt8) (f:Bool) (w:World) :
  Calls prog 218 #[.int .u8 c.toNat,.bool f] w fun e w'=>e=.returned (.bool (Fd.z2d f c))∧w'=w:=by
 have HL:=Ld (Fd.j7p f c);have hb9:(c.toNat:Int)≤255:=by have:=c.toNat_lt;omega
 generalize Fd.z2d f c=out at HL ⊢;have walk:∀ b:Bool,Fd.t1B c=b →
   Calls prog 218 #[.int .u8 c.toNat,.bool f] w fun e w'=>e=.returned (.bool out)∧w'=w:=by
  intro b hb;rw[hb] at HL;have HB:=Ld hb;clear hb;go_enter func218,ntmps218;go_upto_region 1 with fail
  go_cut [22] (fun v wx=>v=.bool b∧w=wx)
  case first =>
   go_wp2_with fail
   all_goals
    go_meet
    case rel=>exact⟨by rw[← HB.out];congr 1;rw[Bool.eq_iff_iff,Fd.t1_iff];simp;try omega,rfl⟩
  case rest =>
  as_aux_lemma =>
  obtain⟨rfl,hwx⟩:=hcut;subst hwx
  cases b with
  | true =>
   have HE:Hid (out=true):=by show _=_;rw[HL.out];rfl
   go_wp2_with fail;go_ret;exact⟨Z8 HE.out.symm,rfl⟩
  | false =>
   cases f with
   | true =>
    have HE:Hid (out=false):=by show _=_;rw[HL.out];rfl
    go_wp2_with fail;go_ret;exact⟨Z8 HE.out.symm,rfl⟩
   | false =>
    go_wp2_with fail
    all_goals (go_ret;refine⟨Z8 ?_,rfl⟩;rw[HL.out,Bool.not_false,Bool.true_and,Bool.false_or,Bool.eq_iff_iff,Fd.t2_iff];simp;try omega)
 exact walk _ rfl
theorem j0j (s:List UInt8) (w:World) (hs:s.length≤2000000) :
  Calls prog 167 #[.string (st s)] w fun e w'=>e=.returned (.bool (Fd.z0b s))∧w'=w:=by
 have hst:∀ l:List UInt8,(st l).toList=l:=fun l=>Lib.toList_data _
 have HT:Hid (Fd.z0b s=(Fd.z3g true s && decide (s ≠ []) && decide (s.length≤20))):=rfl;have hz:(st s).size=s.length:=Z4 s;have HZ:=Ld hz;clear hz;go_enter func167,ntmps167;go_wp2_with fail
 go_loopw [6] (fun i wr=>∃ k:Nat,k≤s.length∧i=.int .i64 k∧Hid (Fd.z3g true s=Fd.z3g (decide (k=0)) (s.drop k))∧Hid (w=wr)) (fun i _=>s.length - (intOf i).toNat)
 case atStart=>exact⟨0,Nat.zero_le _,rfl,rfl,by first | exact rfl | exact trivial⟩
 case round =>
  obtain⟨k,hk,rfl,HA,HW⟩:=hrel;have hw:=HW.out;clear HW;subst hw
  by_cases hlt:k < s.length
  ·have s1:k < (st s).size:=by rw[HZ.out];exact hlt
   have hget:∀ q:k < (st s).size,(st s)[k]'q=s[k]:=fun _=>rfl
   have HDB:Hid (∀ b,Fd.z2d (decide (k=0)) s[k]=b→Fd.z3g (decide (k=0)) (s.drop k)=(b && Fd.z3g (decide (k + 1=0)) (s.drop (k + 1)))):=fun b h=>by rw[Fd.q5e s k hlt];exact congrArg (fun z=>z && _) h
   have HTB:=Ld (z4j s[k] (decide (k=0)) w);have hk0:((k:Int) == 0)=decide (k=0):=by
    rw[Bool.eq_iff_iff,beq_iff_eq,decide_eq_true_iff];omega
   obtain⟨b,hb⟩:∃ b,Fd.z2d (decide (k=0)) s[k]=b:=⟨_,rfl⟩;rw[hb] at HTB;have HD:=Ld (HDB.out b hb);clear hb HDB;go_wp2_with fail;refine HTB.out.mono ?_;rintro e w1 ⟨rfl,hw1⟩;subst w1
   cases b with
   | true =>
    go_wp2_with fail;go_roundw
    case rel=>exact⟨k + 1,by omega,by go_num,by show _=_;rw[HA.out,HD.out,Bool.true_and],by first | exact rfl | exact trivial⟩
    case measure=>simp[intOf];omega
   | false =>
    have HE:Hid (Fd.z0b s=false):=by show _=_;rw[HT.out,HA.out,HD.out];rfl
    go_wp2_with fail;go_ret;exact⟨Z8 HE.out.symm,rfl⟩
  ·have hke:k=s.length:=by omega
   have HE:Hid (Fd.z0b s=(decide (s ≠ []) && decide (s.length≤20))):=by
    show _=_;rw[HT.out,HA.out,hke,List.drop_length];rfl
   clear hke HA
   rcases z3c s with ⟨e1,e2⟩ | ⟨e1,e2⟩
   ·have HF:Hid (Fd.z0b s=false):=by show _=_;rw[HE.out,decide_eq_false (fun q=>q e1)];rfl
    clear e1;go_wp2_with fail;go_ret;exact⟨Z8 HF.out.symm,rfl⟩
   ·rw[decide_eq_true e1,Bool.true_and] at HE
    clear e1
    by_cases h20:s.length≤20
    ·have s2:¬ 20 < (st s).size:=by rw[HZ.out];omega
     have s3:((st s).size:Int)≤20:=by rw[HZ.out];omega
     rw[decide_eq_true h20] at HE;go_wp2_with fail;go_ret;exact⟨Z8 (by rw[HE.out]),rfl⟩
    ·have s3:¬ ((st s).size:Int)≤20:=by rw[HZ.out];omega
     rw[decide_eq_false h20] at HE;go_wp2_with fail;go_ret;exact⟨Z8 (by rw[HE.out]),rfl⟩
end Go.Proofs.YtjonkbdldebkiaaGreatDoor
namespace Fd
def stepD (x:Int × Dr):Int × Dr:=(10 * x.1 + max 0 ((((V4 tenD x.2).1.toNat:Nat):Int) - 48),(V4 tenD x.2).2)
theorem q44:∀ (k:Nat) (n:Int) (r:Dr),digD (k + 1) n r=stepD (digD k n r)
 | 0,n,r=>rfl
 | k + 1,n,r=>by rw[digD,q44 k];rfl
theorem sign_dig (c:Nat) (t:Bs) (b:Bool) (h:c < 10):V4 tenD ⟨UInt8.ofNat (48 + c) :: t,b⟩=(UInt8.ofNat (48 + c),⟨t,b⟩)∧max 0 (((UInt8.ofNat (48 + c)).toNat:Int) - 48)=(c:Int):=by
 have hd:∀ m:Fin 10,tenD.contains (UInt8.ofNat (48 + m.val))=true∧(UInt8.ofNat (48 + m.val)).toNat=48 + m.val:=by decide
 obtain⟨h1,h2⟩:=hd ⟨c,h⟩;refine⟨?_,?_⟩
 ·show (if tenD.contains (UInt8.ofNat (48 + c))=true then _ else _)=_
  rw[if_pos h1]
 ·rw[h2];show max 0 (((48 + c:Nat):Int) - 48)=_;omega
theorem q3s:∀ (k m:Nat) (t:Bs) (b:Bool),m < 10 ^ k→digD k 0 ⟨digs k m++t,b⟩=((m:Int),⟨t,b⟩)
 | 0,m,t,b,h=>by
  have:m=0:=by simpa using h
  rw[this];rfl
 | k + 1,m,t,b,h=>by
  rw[q44,digs,List.append_assoc,q3s k (m / 10) _ b (by rw[Nat.pow_succ] at h;omega)];unfold stepD;have hm:m % 10 < 10:=Nat.mod_lt _ (by decide);obtain⟨h1,h2⟩:=sign_dig (m % 10) t b hm;show (10 * ((m / 10:Nat):Int) + max 0 (((V4 tenD ⟨UInt8.ofNat (48 + m % 10) :: t,b⟩).1.toNat:Int) - 48),(V4 tenD ⟨UInt8.ofNat (48 + m % 10) :: t,b⟩).2)=_;rw[h1];show (10 * ((m / 10:Nat):Int) + max 0 (((UInt8.ofNat (48 + m % 10)).toNat:Int) - 48),(⟨t,b⟩:Dr))=_;rw[h2,show 10 * ((m / 10:Nat):Int) + ((m % 10:Nat):Int)=(m:Int) by omega]
theorem X5 (k m:Nat) (most:Int) (t:Bs) (h:m < 10 ^ k) (h2:(m:Int)≤most):Y0 k most ⟨digs k m++t,false⟩=((m:Int),⟨t,false⟩):=by
 unfold Y0;rw[q3s k m t false h];show ((m:Int),(⟨t,false || decide (most < (m:Int))⟩:Dr))=_;rw[decide_eq_false (by omega)];rfl
theorem sign_one (c:UInt8) (t:Bs) (b:Bool):(V4 [c] ⟨c :: t,b⟩).2=⟨t,b⟩:=by
 show (if [c].contains c=true then (c,(⟨t,b⟩:Dr)) else _).2=_;rw[if_pos (by simp)]
theorem q9o:∀ (k:Nat) (y n:Int),k≤12→q8r k y n=n + rest y 1 - rest y (k + 1)
 | 0,y,n,_=>by show n=n + rest y 1 - rest y (((0:Nat):Int) + 1);rw[show (((0:Nat):Int) + 1)=1 from rfl];omega
 | k + 1,y,n,h=>by
  rw[q8r,q9o k y n (by omega)];have hr:=rest_step y ((k:Int) + 1) (by omega) (by omega);show n + rest y 1 - rest y ((k:Int) + 1) + long y ((k:Int) + 1)=n + rest y 1 - rest y (((k + 1:Nat):Int) + 1);rw[show ((k + 1:Nat):Int)=(k:Int) + 1 by omega];omega
theorem q8t:∀ (n:Nat) (y m d:Int),1≤m→m + n=13→(mths n y m d).2 - rest y (mths n y m d).1=d - rest y m
 | 0,y,m,d,_,_=>rfl
 | n + 1,y,m,d,h1,h2=>by
  have hr:=rest_step y m h1 (by omega);rw[mths]
  split
  ·rw[q8t n y (m + 1) _ (by omega) (by omega)];omega
  ·rfl
theorem j4l (at_:Int) (h0:0≤at_) (h1:at_≤4102444799):z95 (Y2 at_) (z5r at_) (z3t at_ + 1)=at_ / 86400:=by
 obtain⟨m1,m2,d1,d2⟩:=q1i at_ h0 h1
 have hs:=q8t 12 (Y2 at_) 1 (dayOf at_) (by omega) (by omega);have hy:=q7y 200 1970 (at_ / 86400) (by omega);unfold z95;rw[q9o _ _ _ (by omega),show (((z5r at_ - 1).toNat:Nat):Int) + 1=z5r at_ by omega];have e1:ahead (Y2 at_) + dayOf at_=ahead 1970 + at_ / 86400:=hy
 have e2:z3t at_ - rest (Y2 at_) (z5r at_)=dayOf at_ - rest (Y2 at_) 1:=hs
 omega
theorem web_date (at_:Int) (h0:0≤at_) (h1:at_≤4102444799):webD (Y5 at_)=(at_,0):=by
 obtain⟨y1,y2,_,_⟩:=z7m at_ h0 h1
 obtain⟨m1,m2,d1,d2⟩:=q1i at_ h0 h1
 have hl:=j6b (Y2 at_) (z5r at_);have hd:=j4l at_ h0 h1
 unfold Y5;generalize hn:Y2 at_=y at *
 generalize hm:z5r at_=m at *
 generalize hv:z3t at_=d at *
 obtain⟨Y,rfl⟩:=Int.eq_ofNat_of_zero_le (show 0≤y by omega);obtain⟨M,rfl⟩:=Int.eq_ofNat_of_zero_le (show 0≤m by omega);obtain⟨D,rfl⟩:=Int.eq_ofNat_of_zero_le (show 0≤d by omega);obtain⟨A,rfl⟩:=Int.eq_ofNat_of_zero_le h0;rw[show ((A:Int) % 86400 / 3600).toNat=A % 86400 / 3600 by omega,show ((A:Int) % 86400 / 60 % 60).toNat=A % 86400 / 60 % 60 by omega,show ((A:Int) % 86400 % 60).toNat=A % 86400 % 60 by omega,show ((D:Int) + 1).toNat=D + 1 by omega,Int.toNat_natCast,Int.toNat_natCast];simp only [List.append_assoc,List.singleton_append,List.cons_append,List.nil_append];unfold webD z4d;rw[X5 4 Y 9999 _ (by omega) (by omega)];simp only [sign_one];rw[X5 2 M 99 _ (by omega) (by omega)];simp only [sign_one];rw[X5 2 (D + 1) 99 _ (by omega) (by omega)];simp only [sign_one];rw[X5 2 (A % 86400 / 3600) 23 _ (by omega) (by omega)];simp only [sign_one];rw[X5 2 (A % 86400 / 60 % 60) 59 _ (by omega) (by omega)];simp only [sign_one];rw[X5 2 (A % 86400 % 60) 59 _ (by omega) (by omega)];simp only [if_true];unfold z7j;have hdd:z95 (Y:Int) (M:Int) ((D + 1:Nat):Int)=(A:Int) / 86400:=hd;rw[if_neg (by simp),if_neg (by omega),hdd];have e:86400 * ((A:Int) / 86400) + (3600 * ((A % 86400 / 3600:Nat):Int) + 60 * ((A % 86400 / 60 % 60:Nat):Int) + ((A % 86400 % 60:Nat):Int)) - 0=(A:Int):=by omega
 rw[e,if_neg (by omega)]
end Fd
namespace Fd
open Mk
theorem z0t (c d:UInt8) (p t:Bs) (h:d ≠ c):Mg.pre (c :: p) (d :: t)=false:=by
 unfold Mg.pre;simp[h]
theorem z98 (c:UInt8) (t:Bs):∀ s:Bs,c ∉ s→z0c [c] (s++c :: t)=some (s,t)
 | [],_=>by
  show z0c [c] (c :: t)=_;rw[z0c,if_pos (by unfold Mg.pre;simp)];rfl
 | d :: s,h=>by
  show z0c [c] (d :: (s++c :: t))=_;rw[z0c,if_neg (by rw[z0t c d [] _ (fun e=>h (by simp[e]))];simp),z98 c t s (fun q=>h (by simp[q]))];rfl
theorem q59:∀ (n:Bs) (f:Bool) (c:UInt8) (t:Bs),z3g f n=true→(n=[]→f=false)→z2d false c=false→z5v f (n++c :: t)=n
 | [],f,c,t,_,hf,hc=>by
  show z5v f (c :: t)=[];rw[z5v,hf rfl,if_neg (by rw[hc];simp)]
 | d :: n,f,c,t,h,hf,hc=>by
  rw[z3g,Bool.and_eq_true] at h;show z5v f (d :: (n++c :: t))=_;rw[z5v,if_pos h.1,q59 n false c t h.2 (fun _=>rfl) hc]
theorem z3k (n:Bs) (c:UInt8) (t:Bs) (h:z0b n=true) (hc:z2d false c=false):z06 (n++c :: t)=.ok n (c :: t):=by
 have h':=h;unfold z0b at h';rw[Bool.and_eq_true,Bool.and_eq_true] at h';have hne:n ≠ []:=of_decide_eq_true h'.1.2;unfold z06;rw[q59 n true c t h'.1.1 (fun e=>absurd e hne) hc,if_pos h];simp
theorem z4r {n:Bs} (h:z0b n=true):∃ c t,n=c :: t∧z2d true c=true:=by
 unfold z0b at h;rw[Bool.and_eq_true,Bool.and_eq_true] at h
 cases n with
 | nil=>exact absurd rfl (of_decide_eq_true h.1.2)
 | cons c t =>
  have h1:=h.1.1;rw[z3g,Bool.and_eq_true] at h1;exact⟨c,t,rfl,h1.1⟩
theorem z6q:∀ x,z2d true x=true→z2s x=false∧x ≠ 60∧x ≠ 33∧x ≠ 63∧x ≠ 47:=Mg.z0x (fun x=>z2d true x=true→z2s x=false∧x ≠ 60∧x ≠ 33∧x ≠ 63∧x ≠ 47) (by decide)
theorem z3d (c:UInt8) (t:Bs) (h:z2s c=false):V8 (c :: t)=c :: t:=by
 unfold V8;rw[List.dropWhile_cons_of_neg (by rw[h];simp)]
theorem z0e (c:UInt8) (t:Bs):z0k [c] (c :: t)=.ok () t:=by
 unfold z0k;rw[if_pos (by unfold Mg.pre;simp)];rfl
theorem toX_one (c:UInt8) (s t:Bs) (h:c ∉ s):toX [c] (s++c :: t)=.ok s t:=by
 unfold toX;rw[z98 c t s h]
theorem j2a (v t:Bs):z3a (34 :: (put v++34 :: t))=.ok v t:=by
 unfold z3a;rw[if_neg (by rw[z0t 39 34 [] _ (by decide)];simp)];simp only [z0e];rw[toX_one 34 (put v) t (fun q=>(put_mem v 34 q).1 rfl)];simp only;rw[if_neg (by intro q;exact(put_mem v 60 (by simpa using q)).2 rfl),q3k];rfl
theorem j3b (a:At) (t:Bs) (h:z0b a.n=true):z4k (a.n++(61 :: 34 :: (put a.v++34 :: t)))=.ok a t:=by
 unfold z4k;rw[z3k a.n 61 _ h (by decide)];simp only;rw[z3d 61 _ (by decide),z0e];simp only;rw[z3d 34 _ (by decide),j2a]
theorem z0g (seen:List At) (a:At) (r:List At):z14 z0b seen (a :: r)=0↔z0b a.n=true∧z4m seen a.n=false∧z14 z0b (seen++[a]) r=0:=by
 rw[z14]
 cases z0b a.n <;> cases z4m seen a.n <;> simp
theorem z6g:∀ (l seen:List At) (r:List At),z14 z0b seen (l++r)=0↔z14 z0b seen l=0∧z14 z0b (seen++l) r=0
 | [],seen,r=>by simp[z14]
 | a :: l,seen,r=>by
  show z14 z0b seen (a :: (l++r))=0↔_;rw[z0g,z0g,z6g l (seen++[a]) r,List.append_assoc];simp[and_assoc]
theorem q29:∀ (l:List At) (n:Nat) (out:List At) (c:UInt8) (t:Bs),z14 z0b [] (out++l)=0→l.length + 1≤n→z2s c=false→z0o n (written l++c :: t) out=.ok (out++l) (c :: t)
 | [],n,out,c,t,_,hn,hc=>by
  cases n with
  | zero=>simp at hn
  | succ n =>
   show z0o (n + 1) (c :: t) out=_;rw[z0o,z3d c t hc,if_neg (by simp),List.append_nil]
 | a :: l,n,out,c,t,h,hn,hc=>by
  cases n with
  | zero=>simp at hn
  | succ n =>
   have hh:=((z6g out [] (a :: l)).1 h).2;have ha:z0b a.n=true:=((z0g _ _ _).1 hh).1;obtain⟨d,u,hd,hf⟩:=z4r ha;have hw:=(z6q d hf).1;have e0:written (a :: l)++c :: t=32 :: (a.n++(61 :: 34 :: (put a.v++34 :: (written l++c :: t)))):=by rw[q7f];simp
   have e1:V8 (written (a :: l)++c :: t)=a.n++(61 :: 34 :: (put a.v++34 :: (written l++c :: t))):=by
    rw[e0];show List.dropWhile z2s (32 :: _)=_;rw[List.dropWhile_cons_of_pos (by decide),hd];show V8 (d :: _)=_;rw[z3d d _ hw];rfl
   rw[z0o,e1,if_pos (by rw[e0];simp),];have h2:z14 z0b [] ((out++[a])++l)=0:=by rw[List.append_assoc];exact h
   have h3:=((z6g (out++[a]) [] l).1 h2).1;have key:=q29 l n (out++[a]) c t h2 (by simpa using hn) hc;have hx:=j3b a (written l++c :: t) ha;rw[hd] at hx ⊢;simp only [List.cons_append] at hx ⊢;rw[if_pos hf,hx];simp only;rw[if_neg (by rw[h3];simp),key,List.append_assoc];rfl
theorem z4s (l:List At):l.length≤(written l).length:=by
 induction l with
 | nil=>exact Nat.zero_le _
 | cons a l ih=>rw[q7f];simp;omega
theorem q2e (l:List At) (c:UInt8) (t:Bs) (h:z14 z0b [] l=0) (hc:z2s c=false):z2f (written l++c :: t)=.ok l (c :: t):=by
 unfold z2f;have:=z4s l;rw[q29 l _ [] c t h (by simp;omega) hc];rfl
def XOk:Fo→Int→Bool→Prop
 | .nil,_,_=>True
 | .node n a t k r,deep,prev =>
  if n=[] then prev=false∧t ≠ []∧a=[]∧k=.nil∧XOk r deep true
  else z0b n=true∧t=[]∧deep≤8∧z14 z0b [] a=0∧XOk k (deep + 1) false∧XOk r deep false
theorem q7v (n:Bs) (a:List At) (t:Bs) (k r:Fo) (hn:n ≠ []):xmlB (.node n a t k r)=60 :: (n++(written a++(if k=.nil then [47,62] else 62 :: (xmlB k++([60,47]++n++[62])))))++xmlB r:=by
 rw[xmlB,if_neg hn]
 split <;> simp
theorem j7e (t:Bs) (h:t ≠ []):∃ c u,put t=c :: u∧c ≠ 60:=by
 cases hp:put t with
 | nil =>
  have:=q3k t;rw[hp] at this;exact absurd (congrArg Prod.fst this).symm h
 | cons c u=>exact⟨c,u,rfl,(put_mem t c (by rw[hp];simp)).2⟩
theorem written_end (a:List At) (c:UInt8) (t:Bs) (hc:z2d false c=false):∃ d u,written a++c :: t=d :: u∧z2d false d=false:=by
 cases a with
 | nil=>exact⟨c,t,rfl,hc⟩
 | cons x l=>exact⟨32,_,by rw[q7f];rfl,by decide⟩
theorem q88 (c:UInt8) (u:Bs) (h1:c ≠ 33) (h2:c ≠ 63):z1c (60 :: c :: u)=none:=by
 unfold z1c;rw[if_neg (by unfold Mg.pre;simp[h1]),if_neg (by unfold Mg.pre;simp[h2])]
theorem j06 (c:UInt8) (u:Bs) (h1:c ≠ 60):z1c (c :: u)=none:=by
 unfold z1c;rw[if_neg (by rw[z0t 60 c _ _ h1];simp),if_neg (by rw[z0t 60 c _ _ h1];simp)]
mutual
theorem q47 (n:Bs) (a:List At) (k:Fo) (deep:Int) (F:Nat) (t:Bs) (h1:z0b n=true) (h2:deep≤8) (h3:z14 z0b [] a=0) (h4:XOk k (deep + 1) false) (hF:(xmlB k).length + 2≤F) :
  z3y F deep (60 :: (n++(written a++(if k=.nil then [47,62] else 62 :: (xmlB k++([60,47]++n++[62])))))++t)=.ok ⟨n,a,k⟩ t:=by
 cases F with
 | zero=>omega
 | succ F =>
  by_cases hk:k=.nil
  ·subst hk
   simp only [if_true];have e:(60 :: (n++(written a++[47,62]))++t:Bs)=60 :: (n++(written a++47 :: 62 :: t)):=by simp
   rw[e,z3y,z0e];simp only;obtain⟨d,u,hd,hq⟩:=written_end a 47 (62 :: t) (by decide);rw[hd,z3k n d u h1 hq];simp only;rw[if_neg (by omega),← hd,q2e a 47 _ h3 (by decide)];simp only;rw[if_pos (by unfold Mg.pre;simp)];rfl
  ·simp only [if_neg hk]
   have e:(60 :: (n++(written a++(62 :: (xmlB k++([60,47]++n++[62])))))++t:Bs)=60 :: (n++(written a++62 :: (xmlB k++(60 :: 47 :: (n++62 :: t))))):=by simp
   rw[e,z3y,z0e];simp only;obtain⟨d,u,hd,hq⟩:=written_end a 62 (xmlB k++(60 :: 47 :: (n++62 :: t))) (by decide);rw[hd,z3k n d u h1 hq];simp only;rw[if_neg (by omega),← hd,q2e a 62 _ h3 (by decide)];simp only;rw[if_neg (by rw[z0t 47 62 _ _ (by decide)];simp),z0e];simp only;rw[q0m k deep F (n++62 :: t) .nil h4 (by omega)];simp only;rw[z3k n 62 t h1 (by decide)];simp only [ne_eq,not_true_eq_false,if_false];rw[z3d 62 t (by decide),z0e];rfl
termination_by (sizeOf k,1)
theorem q0m (f:Fo) (deep:Int) (F:Nat) (t:Bs) (out:Fo) (h:XOk f (deep + 1) (Fo.j1i out)) (hF:(xmlB f).length + 1≤F) :
  z1l F deep (xmlB f++60 :: 47 :: t) out=.ok (out.app f) t:=by
 cases F with
 | zero=>omega
 | succ F =>
  cases f with
  | nil =>
   show z1l (F + 1) deep (60 :: 47 :: t) out=_;rw[z1l,if_pos (by unfold Mg.pre;simp),Fo.q61];rfl
  | node n a t0 k r =>
   by_cases hn:n=[]
   ·subst hn
    rw[XOk,if_pos rfl] at h;obtain⟨h1,h2,rfl,rfl,h5⟩:=h;obtain⟨c,u,hc,hq⟩:=j7e t0 h2;have ex:xmlB (.node [] [] t0 .nil r)=put t0++xmlB r:=by rw[xmlB,if_pos rfl]
    obtain⟨rest,hr⟩:∃ rest,xmlB r++60 :: 47 :: t=60 :: rest:=by
     cases r with
     | nil=>exact⟨47 :: t,rfl⟩
     | node n2 a2 t2 k2 r2 =>
      by_cases hn2:n2=[]
      ·rw[XOk,if_pos hn2] at h5;exact absurd h5.1 (by simp)
      ·rw[q7v _ _ _ _ _ hn2];exact⟨_,rfl⟩
    have el:(xmlB (.node [] [] t0 .nil r)).length=(put t0).length + (xmlB r).length:=by rw[ex,List.length_append]
    have hl:1≤(put t0).length:=by rw[hc];simp
    rw[ex,List.append_assoc,hr];have ha:=z98 60 rest (put t0) (fun q=>(put_mem t0 60 q).2 rfl);have hdr:(put t0++60 :: rest).drop (put t0).length=60 :: rest:=by simp
    have hsn:z9i out t0=out.app (.node [] [] t0 .nil .nil):=by
     unfold z9i;rw[if_neg h2,Fo.j07 [] [] t0 .nil out (by rw[h1];simp)]
    have ih:=q0m r deep F t (out.app (.node [] [] t0 .nil .nil)) (by rw[Fo.z8h];exact h5) (by omega);rw[hr] at ih;generalize hs:put t0++60 :: rest=s at *;have hs2:s=c :: (u++60 :: rest):=by rw[← hs,hc];rfl
    have n1:Mg.pre [60,47] s=false:=by rw[hs2];exact z0t _ _ _ _ hq
    have n2:Mg.pre [60,33,91,67,68,65,84,65,91] s=false:=by rw[hs2];exact z0t _ _ _ _ hq
    have n3:z1c s=none:=by rw[hs2];exact j06 _ _ hq
    have n4:Mg.pre [60] s=false:=by rw[hs2];exact z0t _ _ _ _ hq
    rw[z1l,if_neg (by rw[n1];simp),if_neg (by rw[n2];simp),n3];simp only;rw[if_neg (by rw[n4];simp),ha];simp only;rw[q3k,hdr,hsn];simp only [if_true];rw[ih,Fo.z4x];rfl
   ·rw[XOk,if_neg hn] at h
    obtain⟨h1,rfl,h3,h4,h5,h6⟩:=h;obtain⟨c,u,hc,hq⟩:=z4r h1;obtain⟨q1,q2,q3,q4,q5⟩:=z6q c hq;have ex:=q7v n a [] k r hn;have el:(xmlB (.node n a [] k r)).length=(60 :: (n++(written a++(if k=.nil then [47,62] else 62 :: (xmlB k++([60,47]++n++[62]))))):Bs).length + (xmlB r).length:=by rw[ex,List.length_append]
    have hl:(xmlB k).length + 3≤(60 :: (n++(written a++(if k=.nil then [47,62] else 62 :: (xmlB k++([60,47]++n++[62]))))):Bs).length:=by
     by_cases hk:k=.nil
     ·rw[if_pos hk,hk];simp[xmlB];omega
     ·rw[if_neg hk];simp;omega
    have he:=q47 n a k (deep + 1) F (xmlB r++60 :: 47 :: t) h1 h3 h4 h5 (by omega);have ih:=q0m r deep F t (out.app (.node n a [] k .nil)) (by rw[Fo.z8h,decide_eq_false hn];exact h6) (by omega);rw[ex,List.append_assoc];generalize hs:(60 :: (n++(written a++(if k=.nil then [47,62] else 62 :: (xmlB k++([60,47]++n++[62])))))++(xmlB r++60 :: 47 :: t):Bs)=s at *;obtain⟨v,hs2⟩:∃ v,s=60 :: c :: v:=by rw[← hs,hc];exact⟨_,rfl⟩
    have n1:Mg.pre [60,47] s=false:=by rw[hs2];unfold Mg.pre;simp[q5]
    have n2:Mg.pre [60,33,91,67,68,65,84,65,91] s=false:=by rw[hs2];unfold Mg.pre;simp[q3]
    have n3:z1c s=none:=by rw[hs2];exact q88 _ _ q3 q4
    have n4:Mg.pre [60] s=true:=by rw[hs2];unfold Mg.pre;simp
    rw[z1l,if_neg (by rw[n1];simp),if_neg (by rw[n2];simp),n3];simp only;rw[if_pos n4,he];simp only;rw[ih,Fo.z4x];rfl
termination_by (sizeOf f,0)
end
theorem xml_back (n:Bs) (a:List At) (k:Fo) (h1:z0b n=true) (h3:z14 z0b [] a=0) (h4:XOk k 2 false):xmlR (xmlB (.node n a [] k .nil))=(⟨n,a,k⟩,0):=by
 obtain⟨c,u,hc,hq⟩:=z4r h1;obtain⟨q1,q2,q3,q4,q5⟩:=z6q c hq;have hn:n ≠ []:=by rw[hc];simp
 have ex:=q7v n a [] k .nil hn;have hl:(xmlB k).length + 3≤(60 :: (n++(written a++(if k=.nil then [47,62] else 62 :: (xmlB k++([60,47]++n++[62]))))):Bs).length:=by
  by_cases hk:k=.nil
  ·rw[if_pos hk,hk];simp[xmlB];omega
  ·rw[if_neg hk];simp;omega
 have he:=q47 n a k 1 ((60 :: (n++(written a++(if k=.nil then [47,62] else 62 :: (xmlB k++([60,47]++n++[62]))))):Bs).length + 1) [] h1 (by omega) h3 h4 (by omega);rw[ex,show xmlB .nil=[] from rfl,List.append_nil];rw[List.append_nil] at he;generalize hs:(60 :: (n++(written a++(if k=.nil then [47,62] else 62 :: (xmlB k++([60,47]++n++[62]))))):Bs)=s at *;obtain⟨v,hs2⟩:∃ v,s=60 :: c :: v:=by rw[← hs,hc];exact⟨_,rfl⟩
 have hm:z3u s=.ok () s:=by
  unfold z3u;rw[z6b,show V8 s=s by rw[hs2];exact z3d 60 _ (by decide),if_neg (by omega),show z1c s=none by rw[hs2];exact q88 _ _ q3 q4]
 have hm0:z3u []=.ok () []:=rfl;unfold xmlR;rw[hm];simp only;rw[he];simp only;rw[hm0];simp
end Fd
namespace Mk
open Fo
theorem j2p (e:Bs):∀ l:List At,q5s e l=false→Y4 [] e l=l
 | [],_=>rfl
 | x :: l,h=>by
  unfold q5s at h;rw[List.any_cons,Bool.or_eq_false_iff] at h;obtain⟨h1,h2⟩:=h;rw[Bool.or_eq_false_iff] at h1;have ih:=j2p e l h2;unfold Y4 at ih ⊢;rw[List.flatMap_cons,ih];unfold z3p;rw[if_neg (by rw[h1.1];simp),q4l]
  split
  ·rename_i hl
   have hg:z1k x.v=true:=by
    have:=h1.2;rw[hl] at this
    simpa using this
   rw[if_pos hg];rfl
  ·rfl
theorem gone_not (n:Bs) (h:z1j n=true):q82 n=false:=by
 cases hg:q82 n with
 | false=>rfl
 | true =>
  unfold q82 at hg;rw[Bool.or_eq_true,Bool.or_eq_true,beq_iff_eq,beq_iff_eq,beq_iff_eq] at hg
  rcases hg with (e | e) | e <;> (rw[e] at h;exact absurd h (by decide))
theorem z4p:∀ f:Fo,right f→z8r f=true→Stable [] f
 | nil,_,_=>trivial
 | node n a t k r,hr,h=>by
  obtain⟨r1,r2,r3,r4,r5⟩:=hr;rw[z8r,Bool.and_eq_true,Bool.not_eq_true',Bool.or_eq_false_iff] at h;obtain⟨⟨h1,h2⟩,h3⟩:=h;refine⟨?_,z4p k r4 (by simpa using h2),z4p r r5 h3⟩;intro hn;rw[decide_eq_true hn,Bool.true_and,Bool.or_eq_false_iff,Bool.or_eq_false_iff] at h1;obtain⟨⟨g1,g2⟩,g3⟩:=h1;have ga:z1j n=true:=by simpa using g1
  refine⟨gone_not n ga,ga,r2 hn,j2p n a g2,?_⟩;intro q;rw[decide_eq_true q.1,q.2] at g3;exact absurd g3 (by simp)
end Mk
namespace Fd
open Mk
theorem j1p (s:Bs) (h:q1h s=true):html [] s=s:=by
 unfold q1h at h;rw[Bool.and_eq_true,Bool.and_eq_true,beq_iff_eq] at h;obtain⟨h1,h2,h3⟩:=h;obtain⟨c1,c2⟩:=Mk.Bld.build_ok (toks s) (toks_ok s);have hst:=z4p _ (z9c _ _ _ c1) h2;have hcl:clean [] (build (toks s))=build (toks s):=by
  unfold clean;exact q77 [] _ [] .nil hst (z9c _ _ _ c1) c1
 unfold html;rw[hcl,h3]
def kidX (title s:Bs) (r:Fo):Fo:=.node title [] [] (if s=[] then .nil else .node [] [] s .nil .nil) r
def Q8 (x:En):Fo:=kidX tId x.id (kidX z5z x.ti (kidX tUpd (Y5 x.at_) (kidX q5c x.ht (.node z8t [⟨j7l,x.li⟩] [] .nil .nil))))
def z8c (x:En):Bs:=xmlB (.node z3e [] [] (.node j08 [] [] (Q8 x) .nil) .nil)
def trimmed (s:Bs):Prop:=q7a s=s
theorem j6u (s:Bs):z16 (if s=[] then .nil else .node [] [] s .nil .nil)=s:=by
 by_cases h:s=[]
 ·rw[if_pos h,h];rfl
 ·rw[if_neg h];show s++(z16 .nil)++z16 .nil=s;simp[z16]
theorem z6e (t s:Bs) (r:Fo):Q5 (kidX t s r) t=q7a s:=by
 unfold Q5 q14 kidX;rw[z2z,if_pos (by simp)];show q7a (z16 (if s=[] then .nil else .node [] [] s .nil .nil))=_;rw[j6u]
theorem X6 (t u s:Bs) (r:Fo) (h:u ≠ t):Q5 (kidX u s r) t=Q5 r t:=by
 unfold Q5 q14 kidX;rw[z2z,if_neg (by simp[h])]
theorem z1m (t s:Bs) (r:Fo) (ht:z0b t=true) (hr:XOk r 3 false):XOk (kidX t s r) 3 false:=by
 have hn:t ≠ []:=by rintro rfl;exact absurd ht (by decide)
 unfold kidX;rw[XOk,if_neg hn];refine⟨ht,rfl,by omega,rfl,?_,hr⟩
 by_cases h:s=[]
 ·rw[if_pos h];trivial
 ·rw[if_neg h,XOk,if_pos rfl];exact⟨rfl,h,rfl,rfl,trivial⟩
theorem j7b (x:En):xmlR (z8c x)=(⟨z3e,[],.node j08 [] [] (Q8 x) .nil⟩,0):=by
 refine xml_back z3e [] _ (by decide) rfl ?_;rw[XOk,if_neg (by decide)];refine⟨by decide,rfl,by omega,rfl,?_,trivial⟩;refine z1m _ _ _ (by decide) (z1m _ _ _ (by decide) (z1m _ _ _ (by decide) (z1m _ _ _ (by decide) ?_)));rw[XOk,if_neg (by decide)];refine⟨by decide,rfl,by omega,?_,trivial,trivial⟩;rw[z0g];exact⟨show z0b j7l=true by decide,rfl,rfl⟩
theorem j3e (at_:Int):trimmed (Y5 at_):=by
 have hd:∀ m:Fin 10,z2s (UInt8.ofNat (48 + m.val))=false:=by decide
 have hl:∃ u,Y5 at_=u++[90]:=⟨_,rfl⟩
 have hf:∃ c u,Y5 at_=c :: u∧z2s c=false:=by
  refine⟨UInt8.ofNat (48 + (Y2 at_).toNat / 10 / 10 / 10 % 10),_,rfl,?_⟩;exact hd ⟨(Y2 at_).toNat / 10 / 10 / 10 % 10,Nat.mod_lt _ (by decide)⟩
 obtain⟨c,v,e1,e2⟩:=hf;have es:V8 (Y5 at_)=Y5 at_:=by rw[e1];exact z3d c v e2
 unfold trimmed q7a;rw[es];obtain⟨u,e⟩:=hl;rw[e,List.reverse_append];show (List.dropWhile z2s (90 :: u.reverse)).reverse=_;rw[List.dropWhile_cons_of_neg (by decide)];simp
theorem j1m (x:En) (h0:0≤x.at_) (h1:x.at_≤4102444799) (t1:trimmed x.id) (t2:trimmed x.ti) (t3:trimmed x.ht):z9r (Q8 x)=x:=by
 have e1:Q5 (Q8 x) tId=x.id:=by unfold Q8;rw[z6e];exact t1
 have e2:Q5 (Q8 x) z5z=x.ti:=by unfold Q8;rw[X6 _ _ _ _ (by decide),z6e];exact t2
 have e3:Q5 (Q8 x) tUpd=Y5 x.at_:=by unfold Q8;rw[X6 _ _ _ _ (by decide),X6 _ _ _ _ (by decide),z6e];exact j3e _
 have e4:Q5 (Q8 x) q5c=x.ht:=by unfold Q8;rw[X6 _ _ _ _ (by decide),X6 _ _ _ _ (by decide),X6 _ _ _ _ (by decide),z6e];exact t3
 have e5:(q14 q5c (Q8 x)).isSome=true:=by
  unfold Q8 q14 kidX;rw[z2z,if_neg (by decide),z2z,if_neg (by decide),z2z,if_neg (by decide),z2z,if_pos (by decide)];rfl
 have e6:((valueA ((z2z z8t z7q (Q8 x)).getD Nd.none).ats j7l).getD [])=x.li:=by
  unfold Q8 kidX;rw[z2z,if_neg (by simp[show tId ≠ z8t by decide]),z2z,if_neg (by simp[show z5z ≠ z8t by decide]),z2z,if_neg (by simp[show tUpd ≠ z8t by decide]),z2z,if_neg (by simp[show q5c ≠ z8t by decide]),z2z,if_pos (show (decide (z8t=z8t) && z7q ⟨z8t,[⟨j7l,x.li⟩],[],.nil⟩)=true from by rw[decide_eq_true rfl];rfl)];rfl
 unfold z9r;rw[e5,if_pos rfl,e1,e2,e3,e4,e6,web_date _ h0 h1]
theorem j5s (x:En) (hc:z03 x=0) (hl:x.li ≠ []) (t1:trimmed x.id) (t2:trimmed x.ti) (t3:trimmed x.ht):X0 [] (z8c x)=if 3000 < (z8c x).length then ([],2) else ([x],0):=by
 have hc':=hc;unfold z03 at hc
 by_cases q1:x.id=[]
 ·rw[if_pos q1] at hc;cases hc
 rw[if_neg q1] at hc
 by_cases q2:60 < x.id.length∨3000 < x.ti.length∨3000 < x.li.length∨3000 < x.ht.length
 ·rw[if_pos q2] at hc;cases hc
 rw[if_neg q2] at hc
 by_cases q3:x.at_ < 0∨4102444799 < x.at_
 ·rw[if_pos q3] at hc;cases hc
 rw[if_neg q3] at hc
 by_cases q4:(x.li ≠ []∧Mg.isSafe x.li=false)∨q1h x.ht=false
 ·rw[if_pos q4] at hc;cases hc
 have s1:Mg.isSafe x.li=true:=by
  cases hs:Mg.isSafe x.li with
  | true=>rfl
  | false=>exact absurd (.inl ⟨hl,hs⟩) q4
 have s2:q1h x.ht=true:=by
  cases hs:q1h x.ht with
  | true=>rfl
  | false=>exact absurd (.inr hs) q4
 have ea:asM [] x=x:=by
  unfold asM q38;rw[q4l,if_neg q1,if_pos s1,j1p _ s2]
 unfold X0;rw[if_neg (by simp)];unfold xmlM
 by_cases hb:3000 < (z8c x).length
 ·rw[if_pos hb,if_pos hb];rfl
 rw[if_neg hb,if_neg hb,j7b];rw[if_neg (by simp)];show (if z3e=tRss then _ else _)=_;rw[if_neg (by decide),if_pos rfl];have ee:z7h [] j08 z9r (.node j08 [] [] (Q8 x) .nil) []=[x]:=by
  rw[z7h,if_pos rfl,z7h,j1m x (by omega) (by omega) t1 t2 t3];unfold putM;rw[ea,if_neg ?_]
  ·rfl
  ·rintro (h | h | h | h | h)
   ·simp at h
   ·omega
   ·simp at h
   ·exact h hc'
   ·simp at h
 exact congrArg (fun l=>(l,(0:Int))) ee
end Fd
