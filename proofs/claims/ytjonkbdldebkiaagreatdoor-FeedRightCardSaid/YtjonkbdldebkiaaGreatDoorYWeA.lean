/- Contracts of the program's Stays (is markup clean, and as it is printed) and of feed.Check. No condition. -/
import Derived.Test.YtjonkbdldebkiaaGreatDoorYWfN
import Derived.Test.YtjonkbdldebkiaaGreatDoorYMkHtml
import Derived.Test.YtjonkbdldebkiaaGreatDoorYMkRep6
import Derived.Test.YtjonkbdldebkiaaGreatDoorYWdB
set_option linter.unusedVariables false
set_option linter.unusedSimpArgs false
set_option maxHeartbeats 8000000
set_option maxRecDepth 100000
namespace Go.Proofs.YtjonkbdldebkiaaGreatDoor
open Go.RowKit
theorem ntells (s:List UInt8) (hs:s.length≤3000):∀ t ∈ Mk.flat (Mk.build (Mk.toks s)),z7f t:=by
 intro t ht;have h1:=Mk.z7e s;have h2:=Mk.z4w (Mk.toks s);obtain⟨h4,h5⟩:=Mk.j1r _ t ht;exact⟨fun _=>z9k _ (by omega),fun a ha=>z9k _ (by have:=h5 a ha;omega)⟩
theorem j7r (s:List UInt8) (w:World) (hg:Gl w) :
  Calls Tryz.prog 63 #[.string (st s)] w fun e w'=>e=.returned (.bool (Fd.z5g s))∧Below w.heap.size w w':=by
 have hst:∀ l:List UInt8,(st l).toList=l:=fun l=>Lib.toList_data _
 have HS:Hid (Fd.z5g s=(decide (s.length≤3000) && (Mk.z2t (Mk.build (Mk.toks s)) && (Mk.bytes (Mk.flat (Mk.build (Mk.toks s))) == s)))):=rfl
 by_cases h1:s.length≤3000
 ·have h2:¬ 3000 < (st s).size:=by rw[y9];omega
  have HE:Hid (Fd.z5g s=(Mk.z2t (Mk.build (Mk.toks s)) && (Mk.bytes (Mk.flat (Mk.build (Mk.toks s))) == s))):=by show _=_;rw[HS.out,decide_eq_true h1,Bool.true_and]
  have HA:=Lib.hid (j9m (st s) w hg (by rw[y9];omega));have hb1:=Mk.z7e s;have hb2:=Mk.z4w (Mk.toks s);have hb3:=Mk.q3y (Mk.build (Mk.toks s));have HT:=Lib.hid (ntells s h1);have HB:Hid (Mk.Bld.tokB (Mk.toks s)≤549755813000∧(Mk.build (Mk.toks s)).bulk≤1048576∧(Mk.bytes (Mk.flat (Mk.build (Mk.toks s)))).length≤1099511627776):=⟨by omega,by omega,by omega⟩;clear HS h1 hb1 hb2 hb3;go_enter Tryz.func63,Tryz.ntmps63;go_wp2_with fail;refine HA.out.mono ?_;rintro e w1 ⟨v1,rfl,hv1,hb1⟩;have B1:=Lib.hid hb1;have HO:=Lib.hid (tr_Of (Mk.toks s) v1 _ w1 hv1 (fun b q=>q.2) HB.out.1);clear hv1 hb1 HA;go_wp2_with fail;refine HO.out.mono ?_;rintro e w2 ⟨v2,rfl,hv2,hb2⟩;have B2:=Lib.hid (B1.out.trans (hb2.mono B1.out.size));have HV2:=Lib.hid hv2;have HF:=Lib.hid (j7u ((Mk.build (Mk.toks s)).bulk + 1) (Mk.build (Mk.toks s)) (Nat.lt_succ_self _) (Nat.le_trans HB.out.2.1 (by decide)) v2 _ w2 hv2 (fun b q=>q.2));clear hv2 hb2 HO B1;go_wp2_with fail;refine HF.out.mono ?_;rintro e w3 ⟨rfl,hb3⟩;have B3:=Lib.hid (B2.out.trans (hb3.mono B2.out.size));have HV3:Hid (FoV w3 (fun x=>w1.heap.size≤x∧x < w2.heap.size) v2 (Mk.build (Mk.toks s))):=HV2.out.frame (fun b q=>⟨q,hb3.block b q.2⟩);have h23:=hb3.size;clear hb3 HF HV2 B2;obtain⟨b,hb⟩:∃ b,Mk.z2t (Mk.build (Mk.toks s))=b:=⟨_,rfl⟩;rw[hb] at HE ⊢;clear hb
  cases b with
  | false =>
   go_wp2_with fail;go_ret;exact⟨Z7 (by rw[HE.out];rfl),B3.out⟩
  | true =>
   have HK:=Lib.hid (q8u ((Mk.build (Mk.toks s)).bulk + 1) (Mk.build (Mk.toks s)) (Nat.lt_succ_self _) (Nat.le_trans HB.out.2.1 (by decide)) v2 _ w3 HV3.out (fun b q=>Nat.lt_of_lt_of_le q.2 h23));go_wp2_with fail;refine HK.out.mono ?_;rintro e w4 ⟨v4,xs4,rfl,hv4,_,hb4⟩;have B4:=Lib.hid (B3.out.trans (hb4.mono B3.out.size));have HBY:=Lib.hid (j2o (Mk.flat (Mk.build (Mk.toks s))) v4 _ w4 hv4.toksV (fun b q=>q.2) HT.out HB.out.2.2);clear hv4 hb4 HK B3 HV3;go_wp2_with fail;refine HBY.out.mono ?_;rintro e w5 ⟨rfl,hb5⟩;have B5:=Lib.hid (B4.out.trans (hb5.mono B4.out.size));clear hb5 HBY B4 HB HT;generalize Mk.bytes (Mk.flat (Mk.build (Mk.toks s)))=y at HE ⊢;go_wp2_with fail;go_ret;exact⟨Z7 (by rw[HE.out];simp[hst]),B5.out⟩
 ·have h2:3000 < (st s).size:=by rw[y9];omega
  have HE:Hid (Fd.z5g s=false):=by show _=_;rw[HS.out,decide_eq_false h1,Bool.false_and]
  clear HS h1;go_enter Tryz.func63,Tryz.ntmps63;go_wp2_with fail;go_ret;exact⟨Z7 HE.out.symm,Below.refl _ _⟩
theorem q9u (s:List UInt8) (w:World) :
  Calls Tryz.prog 61 #[.string (st s)] w fun e w'=>e=.returned (.bool (decide (3000 < s.length)))∧w'=w:=by
 by_cases h:3000 < s.length
 ·have h2:3000 < (st s).size:=by rw[y9];omega
  rw[decide_eq_true h];clear h;go_enter Tryz.func61,Tryz.ntmps61;go_wp2_with fail;go_ret;exact⟨Z7 (decide_eq_true (by omega)),rfl⟩
 ·have h2:¬ 3000 < (st s).size:=by rw[y9];omega
  rw[decide_eq_false h];clear h;go_enter Tryz.func61,Tryz.ntmps61;go_wp2_with fail;go_ret;exact⟨Z7 (decide_eq_false (by omega)),rfl⟩
theorem z5y (n:List UInt8):(n=[]∧n.isEmpty=true)∨(n ≠ []∧n.isEmpty=false):=by
 cases n with
 | nil=>exact .inl ⟨rfl,rfl⟩
 | cons _ _=>exact .inr ⟨by simp,rfl⟩
theorem q5t (x:Fd.En) (w:World) (hg:Gl w) :
  Calls Tryz.prog 23 #[.agg #[.string (st x.id),.string (st x.ti),.string (st x.li),.int .i64 x.at_,.string (st x.ht)]] w fun e w'=>e=.returned (.int .i64 (Fd.z0r x))∧Below w.heap.size w w':=by
 have hst:∀ l:List UInt8,(st l).toList=l:=fun l=>Lib.toList_data _
 have HC:Hid (Fd.z0r x=if x.id=[] then 1 else if 60 < x.id.length∨3000 < x.ti.length∨3000 < x.li.length∨3000 < x.ht.length then 2 else if x.at_ < 0∨4102444799 < x.at_ then 3 else if (x.li ≠ []∧Mg.isSafe x.li=false)∨Fd.z5g x.ht=false then 4 else 0):=rfl;generalize Fd.z0r x=c at HC ⊢;obtain⟨id,ti,li,at_,ht⟩:=x;simp only at HC ⊢;have hal:=(Below.refl w.heap.size w).alloc (Nat.le_refl _) (.cells #[.string (st id),.string (st ti),.string (st li),.int .i64 at_,.string (st ht)] 44);have HAL:=Lib.hid hal;have PB:=Lib.hid (Blk.new w 44 #[.string (st id),.string (st ti),.string (st li),.int .i64 at_,.string (st ht)]);have HG:=Lib.hid (hg.alloc (.cells #[.string (st id),.string (st ti),.string (st li),.int .i64 at_,.string (st ht)] 44));have hI:Mg.isSafe li=Mg.isSafe (st li).data.toList:=rfl;have HLT:=Lib.hid (fun W=>q9u ti W);have HLL:=Lib.hid (fun W=>q9u li W);have HLH:=Lib.hid (fun W=>q9u ht W);have his:(st id).size=id.length:=y9 id;have HIS:=Lib.hid his;have HLI:Hid (li.length≤3000→∀ W,Calls Tryz.prog 62 #[.string (st li)] W fun e w'=>e=.returned (.bool (Mg.isSafe li))∧Below W.heap.size W w'):=fun h W=>q8x (st li) W (by rw[y9];omega)
 have HST:=Lib.hid (fun W (hW:Gl W)=>j7r ht W hW);clear hal hI his hg
 rcases z5y id with ⟨e1,q1⟩ | ⟨e1,q1⟩
 ·have HE:Hid (c=1):=by show _=_;rw[HC.out,if_pos e1]
  clear e1;clear HC;go_enter Tryz.func23,Tryz.ntmps23;go_wp2_with (first | (go_at_call 61;refine(HLT.out _).mono ?_;rintro e wx ⟨rfl,hwx⟩;subst wx) | (go_at_call 61;refine(HLL.out _).mono ?_;rintro e wx ⟨rfl,hwx⟩;subst wx) | (go_at_call 61;refine(HLH.out _).mono ?_;rintro e wx ⟨rfl,hwx⟩;subst wx));go_ret;exact⟨Y8 (by rw[HE.out]),HAL.out⟩
 rw[if_neg e1] at HC;clear e1
 by_cases q2:60 < id.length
 ·have HE:Hid (c=2):=by show _=_;rw[HC.out,if_pos (.inl q2)]
  have s2:60 < (st id).size:=by rw[y9];exact q2
  clear q2;clear HC;go_enter Tryz.func23,Tryz.ntmps23;go_wp2_with (first | (go_at_call 61;refine(HLT.out _).mono ?_;rintro e wx ⟨rfl,hwx⟩;subst wx) | (go_at_call 61;refine(HLL.out _).mono ?_;rintro e wx ⟨rfl,hwx⟩;subst wx) | (go_at_call 61;refine(HLH.out _).mono ?_;rintro e wx ⟨rfl,hwx⟩;subst wx));go_ret;exact⟨Y8 (by rw[HE.out]),HAL.out⟩
 have s2:¬ 60 < (st id).size:=by rw[y9];exact q2
 by_cases q3:3000 < ti.length
 ·have HE:Hid (c=2):=by show _=_;rw[HC.out,if_pos (.inr (.inl q3))]
  rw[decide_eq_true q3] at HLT;clear q2 q3;clear HC;go_enter Tryz.func23,Tryz.ntmps23;go_wp2_with (first | (go_at_call 61;refine(HLT.out _).mono ?_;rintro e wx ⟨rfl,hwx⟩;subst wx) | (go_at_call 61;refine(HLL.out _).mono ?_;rintro e wx ⟨rfl,hwx⟩;subst wx) | (go_at_call 61;refine(HLH.out _).mono ?_;rintro e wx ⟨rfl,hwx⟩;subst wx));go_ret;exact⟨Y8 (by rw[HE.out]),HAL.out⟩
 rw[decide_eq_false q3] at HLT
 by_cases q4:3000 < li.length
 ·have HE:Hid (c=2):=by show _=_;rw[HC.out,if_pos (.inr (.inr (.inl q4)))]
  rw[decide_eq_true q4] at HLL;clear q2 q3 q4;clear HC;go_enter Tryz.func23,Tryz.ntmps23;go_wp2_with (first | (go_at_call 61;refine(HLT.out _).mono ?_;rintro e wx ⟨rfl,hwx⟩;subst wx) | (go_at_call 61;refine(HLL.out _).mono ?_;rintro e wx ⟨rfl,hwx⟩;subst wx) | (go_at_call 61;refine(HLH.out _).mono ?_;rintro e wx ⟨rfl,hwx⟩;subst wx));go_ret;exact⟨Y8 (by rw[HE.out]),HAL.out⟩
 rw[decide_eq_false q4] at HLL
 by_cases q5:3000 < ht.length
 ·have HE:Hid (c=2):=by show _=_;rw[HC.out,if_pos (.inr (.inr (.inr q5)))]
  rw[decide_eq_true q5] at HLH;clear q2 q3 q4 q5;clear HC;go_enter Tryz.func23,Tryz.ntmps23;go_wp2_with (first | (go_at_call 61;refine(HLT.out _).mono ?_;rintro e wx ⟨rfl,hwx⟩;subst wx) | (go_at_call 61;refine(HLL.out _).mono ?_;rintro e wx ⟨rfl,hwx⟩;subst wx) | (go_at_call 61;refine(HLH.out _).mono ?_;rintro e wx ⟨rfl,hwx⟩;subst wx));go_ret;exact⟨Y8 (by rw[HE.out]),HAL.out⟩
 rw[decide_eq_false q5] at HLH;rw[if_neg (by rintro (q | q | q | q) <;> omega)] at HC
 by_cases q6:at_ < 0
 ·have HE:Hid (c=3):=by show _=_;rw[HC.out,if_pos (.inl q6)]
  clear q2 q3 q4 q5;clear HC;go_enter Tryz.func23,Tryz.ntmps23;go_wp2_with (first | (go_at_call 61;refine(HLT.out _).mono ?_;rintro e wx ⟨rfl,hwx⟩;subst wx) | (go_at_call 61;refine(HLL.out _).mono ?_;rintro e wx ⟨rfl,hwx⟩;subst wx) | (go_at_call 61;refine(HLH.out _).mono ?_;rintro e wx ⟨rfl,hwx⟩;subst wx));go_ret;exact⟨Y8 (by rw[HE.out]),HAL.out⟩
 by_cases q7:4102444799 < at_
 ·have HE:Hid (c=3):=by show _=_;rw[HC.out,if_pos (.inr q7)]
  clear q2 q3 q4 q5;clear HC;go_enter Tryz.func23,Tryz.ntmps23;go_wp2_with (first | (go_at_call 61;refine(HLT.out _).mono ?_;rintro e wx ⟨rfl,hwx⟩;subst wx) | (go_at_call 61;refine(HLL.out _).mono ?_;rintro e wx ⟨rfl,hwx⟩;subst wx) | (go_at_call 61;refine(HLH.out _).mono ?_;rintro e wx ⟨rfl,hwx⟩;subst wx));go_ret;exact⟨Y8 (by rw[HE.out]),HAL.out⟩
 rw[if_neg (by rintro (q | q) <;> omega)] at HC;have HLJ:=Lib.hid (HLI.out (by omega));clear q2 q3 q4 q5 HLI;obtain⟨bs,hbs⟩:∃ b,Fd.z5g ht=b:=⟨_,rfl⟩;rw[hbs] at HST HC;clear hbs
 rcases z5y li with ⟨e8,q8⟩ | ⟨e8,q8⟩
 ·have HE:Hid (c=if bs=false then 4 else 0):=by
   show _=_;rw[HC.out]
   cases bs with
   | false=>rw[if_pos (.inr rfl),if_pos rfl]
   | true=>rw[if_neg (by rintro (q | q);exact q.1 e8;cases q),if_neg (by decide)]
  clear e8 HC HLJ;go_enter Tryz.func23,Tryz.ntmps23;go_wp2_with (first | (go_at_call 61;refine(HLT.out _).mono ?_;rintro e wx ⟨rfl,hwx⟩;subst wx) | (go_at_call 61;refine(HLL.out _).mono ?_;rintro e wx ⟨rfl,hwx⟩;subst wx) | (go_at_call 61;refine(HLH.out _).mono ?_;rintro e wx ⟨rfl,hwx⟩;subst wx));refine(HST.out _ HG.out).mono ?_;rintro e w1 ⟨rfl,hb1⟩;have B1:=Lib.hid (HAL.out.trans (hb1.mono HAL.out.size));clear hb1
  cases bs with
  | false =>
   go_wp2_with fail;go_ret;exact⟨Y8 (by rw[HE.out];rfl),B1.out⟩
  | true =>
   go_wp2_with fail;go_ret;exact⟨Y8 (by rw[HE.out];rfl),B1.out⟩
 ·obtain⟨bi,hbi⟩:∃ b,Mg.isSafe li=b:=⟨_,rfl⟩
  rw[hbi] at HLJ HC;clear hbi
  cases bi with
  | false =>
   have HE:Hid (c=4):=by show _=_;rw[HC.out,if_pos (.inl ⟨e8,rfl⟩)]
   clear e8 HC;go_enter Tryz.func23,Tryz.ntmps23;go_wp2_with (first | (go_at_call 61;refine(HLT.out _).mono ?_;rintro e wx ⟨rfl,hwx⟩;subst wx) | (go_at_call 61;refine(HLL.out _).mono ?_;rintro e wx ⟨rfl,hwx⟩;subst wx) | (go_at_call 61;refine(HLH.out _).mono ?_;rintro e wx ⟨rfl,hwx⟩;subst wx));refine(HLJ.out _).mono ?_;rintro e w1 ⟨rfl,hb1⟩;have B1:=Lib.hid (HAL.out.trans (hb1.mono HAL.out.size));clear hb1;go_wp2_with fail;go_ret;exact⟨Y8 (by rw[HE.out]),B1.out⟩
  | true =>
   have HE:Hid (c=if bs=false then 4 else 0):=by
    show _=_;rw[HC.out]
    cases bs with
    | false=>rw[if_pos (.inr rfl),if_pos rfl]
    | true=>rw[if_neg (by rintro (q | q);cases q.2;cases q),if_neg (by decide)]
   clear e8 HC;go_enter Tryz.func23,Tryz.ntmps23;go_wp2_with (first | (go_at_call 61;refine(HLT.out _).mono ?_;rintro e wx ⟨rfl,hwx⟩;subst wx) | (go_at_call 61;refine(HLL.out _).mono ?_;rintro e wx ⟨rfl,hwx⟩;subst wx) | (go_at_call 61;refine(HLH.out _).mono ?_;rintro e wx ⟨rfl,hwx⟩;subst wx));refine(HLJ.out _).mono ?_;rintro e w1 ⟨rfl,hb1⟩;have B1:=Lib.hid (HAL.out.trans (hb1.mono HAL.out.size));have p4:w1.cell? ⟨w.heap.size,4,none⟩=some (.string (st ht)):=Blk.cell (Blk.below PB.out hb1 (Blk.lt PB.out)) 4;have HG1:=Lib.hid (HG.out.below hb1 HG.out.lt);clear hb1;go_wp2_with fail;refine(HST.out _ HG1.out).mono ?_;rintro e w2 ⟨rfl,hb2⟩;have B2:=Lib.hid (B1.out.trans (hb2.mono B1.out.size));clear hb2
   cases bs with
   | false =>
    go_wp2_with fail;go_ret;exact⟨Y8 (by rw[HE.out];rfl),B2.out⟩
   | true =>
    go_wp2_with fail;go_ret;exact⟨Y8 (by rw[HE.out];rfl),B2.out⟩
end Go.Proofs.YtjonkbdldebkiaaGreatDoor
namespace Fd
theorem q96 (y:Int) (h0:0≤y) (h1:y≤99999):0≤ahead y∧ahead y≤36600000:=by
 unfold ahead
 split
 ·omega
 ·omega
end Fd
namespace Go.Proofs.YtjonkbdldebkiaaGreatDoor
open Go.RowKit
theorem dt_days (y m d:Int) (y0:0≤y) (y1:y≤99999) (m0:1≤m) (m1:m≤12) (d0:1≤d) (d1:d≤31) (w:World) :
  Calls Tryz.prog 170 #[.int .i64 y,.int .i64 m,.int .i64 d] w fun e w'=>e=.returned (.int .i64 (Fd.z9x y m d))∧Below w.heap.size w w'∧-800000≤Fd.z9x y m d∧Fd.z9x y m d≤40000000:=by
 obtain⟨a1,a2⟩:=Fd.q96 y y0 y1;have HA:=Lib.hid (fun W=>j1n y y0 (by omega) W);have HA70:=Lib.hid (fun W=>j1n 1970 (by omega) (by omega) W);have h70:Fd.ahead 1970=719528:=by decide
 rw[h70] at HA70;have HD:Hid (Fd.z9x y m d=Fd.j0n (m - 1).toNat y (Fd.ahead y - 719528 + d - 1)):=by show _=_;unfold Fd.z9x;rw[h70]
 generalize Fd.z9x y m d=out at HD ⊢;generalize Fd.ahead y=a at HA HD a1 a2;have HLG:=Lib.hid (fun (k:Int) (h1:1≤k) (h2:k≤12) (W:World)=>j8d y k y0 h1 h2 W);obtain⟨mn,rfl⟩:∃ mn:Nat,m=((mn + 1:Nat):Int):=⟨(m - 1).toNat,by omega⟩;have HD2:Hid (out=Fd.j0n mn y (a - 719528 + d - 1)):=by
  show _=_;rw[HD.out,show (((mn + 1:Nat):Int) - 1).toNat=mn by omega]
 clear h70 HD;go_enter Tryz.func170,Tryz.ntmps170;go_wp2_with fail;refine(HA.out _).mono ?_;rintro e wx ⟨rfl,hwx⟩;subst wx;go_wp2_with fail;refine(HA70.out _).mono ?_;rintro e wx ⟨rfl,hwx⟩;subst wx;go_wp2_with fail
 go_loopw [7,8] (fun n k wr=>∃ (j:Nat) (nn:Int),j≤mn∧k=.int .i64 ((j:Int) + 1)∧n=.int .i64 nn∧-719528≤nn∧Hid (nn≤35880503 + 31 * j)∧Hid (nn=Fd.j0n j y (a - 719528 + d - 1))∧Hid (Below w.heap.size w wr)) (fun _ k _=>mn + 1 - (intOf k).toNat)
 case atStart=>exact⟨0,a - 719528 + d - 1,Nat.zero_le _,rfl,rfl,by omega,by show _≤_;omega,rfl,Below.refl _ _⟩
 case round =>
  obtain⟨j,nn,hj,rfl,rfl,h1,HB,HN,BL⟩:=hrel;have h2:nn≤36000000:=by have:=HB.out;omega
  by_cases hlt:j < mn
  ·have hl:=Fd.j9h y ((j:Int) + 1)
   have HLJ:=Lib.hid (HLG.out ((j:Int) + 1) (by omega) (by omega));have HNX:Hid (Fd.j0n (j + 1) y (a - 719528 + d - 1)=Fd.j0n j y (a - 719528 + d - 1) + Fd.long y ((j:Int) + 1)):=rfl;generalize Fd.long y ((j:Int) + 1)=L at hl HLJ HNX;obtain⟨l1,l2⟩:=hl;go_wp2_with fail;refine(HLJ.out _).mono ?_;rintro e w1 ⟨rfl,hb1⟩;have B1:=Lib.hid (BL.out.trans (hb1.mono BL.out.size));clear hb1;go_wp2_with fail;go_roundw
   case rel=>exact⟨j + 1,nn + L,by omega,by go_num,by go_num,by omega,by show _≤_;have:=HB.out;omega,by show _=_;rw[HNX.out,HN.out],B1⟩
   case measure=>simp[intOf];omega
  ·have hje:j=mn:=by omega
   have HE:Hid (out=nn):=by show _=_;rw[HD2.out,HN.out,hje]
   clear hje;go_wp2_with fail;go_ret;exact⟨by rw[HE.out];rfl,BL.out,by rw[HE.out];omega,by rw[HE.out];omega⟩
theorem q5l (y m d clock zone:Int) (y0:0≤y) (y1:y≤99999) (m0:0≤m) (m1:m≤99999) (d0:0≤d) (d1:d≤99999) (c0:0≤clock) (c1:clock≤400000000) (z0 : -400000000≤zone) (z1:zone≤400000000) (r:Fd.Dr) (R:Nat) (w:World) (h:DrS w R r) :
  Calls Tryz.prog 106 #[.pointer (some ⟨R,0,none⟩),.int .i64 y,.int .i64 m,.int .i64 d,.int .i64 clock,.int .i64 zone] w fun e w'=>e=.returned (.tuple #[.int .i64 (Fd.z7u y m d clock zone r).1,.int .i64 (Fd.z7u y m d clock zone r).2])∧Below w.heap.size w w':=by
 have hst:∀ l:List UInt8,(st l).toList=l:=fun l=>Lib.toList_data _
 have HT:Hid (Fd.z7u y m d clock zone r=if r.short=true∨r.s ≠ [] then (0,1) else if m < 1∨12 < m∨d < 1∨Fd.long y m < d then (0,3) else if 86400 * Fd.z9x y m d + clock - zone < 0∨4102444799 < 86400 * Fd.z9x y m d + clock - zone then (0,3) else (86400 * Fd.z9x y m d + clock - zone,0)):=rfl;generalize Fd.z7u y m d clock zone r=out at HT ⊢;obtain⟨s,sh⟩:=r;simp only at HT;have k0:w.cell? ⟨R,0,none⟩=some (.string (st s)):=Blk.cell h 0;have k1:w.cell? ⟨R,1,none⟩=some (.bool sh):=Blk.cell h 1;clear h
 cases sh with
 | true =>
  have HE:Hid (out=(0,1)):=by show _=_;rw[HT.out,if_pos (.inl rfl)]
  clear HT;go_enter Tryz.func106,Tryz.ntmps106;go_wp2_with fail;go_ret2;exact⟨by rw[HE.out];rfl,Below.refl _ _⟩
 | false =>
  rcases z5y s with ⟨e1,e2⟩ | ⟨e1,e2⟩
  ·rw[if_neg (by rintro (q | q);cases q;exact q e1)] at HT
   clear e1
   by_cases q1:m < 1∨12 < m∨d < 1
   ·have HE:Hid (out=(0,3)):=by show _=_;rw[HT.out,if_pos (by omega)]
    clear HT
    rcases q1 with q1 | q1
    ·go_enter Tryz.func106,Tryz.ntmps106
     go_wp2_with fail;go_ret2;exact⟨by rw[HE.out];rfl,Below.refl _ _⟩
    ·by_cases q2:m < 1
     ·go_enter Tryz.func106,Tryz.ntmps106
      go_wp2_with fail;go_ret2;exact⟨by rw[HE.out];rfl,Below.refl _ _⟩
     ·rcases q1 with q1 | q1
      ·go_enter Tryz.func106,Tryz.ntmps106
       go_wp2_with fail;go_ret2;exact⟨by rw[HE.out];rfl,Below.refl _ _⟩
      ·by_cases q3:12 < m
       ·go_enter Tryz.func106,Tryz.ntmps106
        go_wp2_with fail;go_ret2;exact⟨by rw[HE.out];rfl,Below.refl _ _⟩
       ·go_enter Tryz.func106,Tryz.ntmps106
        go_wp2_with fail;go_ret2;exact⟨by rw[HE.out];rfl,Below.refl _ _⟩
   ·have r1:¬ m < 1:=by omega
    have r2:¬ 12 < m:=by omega
    have r3:¬ d < 1:=by omega
    have hl:=Fd.j9h y m;have HLG:=Lib.hid (fun W=>j8d y m y0 (by omega) (by omega) W)
    by_cases q4:Fd.long y m < d
    ·have HE:Hid (out=(0,3)):=by show _=_;rw[HT.out,if_pos (.inr (.inr (.inr q4)))]
     clear HT q1;generalize Fd.long y m=L at hl HLG q4;go_enter Tryz.func106,Tryz.ntmps106;go_wp2_with fail;refine(HLG.out _).mono ?_;rintro e w1 ⟨rfl,hb1⟩;have B1:=Lib.hid hb1;clear hb1;go_wp2_with fail;go_ret2;exact⟨by rw[HE.out];rfl,B1.out⟩
    ·rw[if_neg (by rintro (q | q | q | q) <;> omega)] at HT
     have HDY:=Lib.hid (fun W=>dt_days y m d y0 y1 (by omega) (by omega) (by omega) (by omega) W);generalize Fd.long y m=L at hl HLG q4;generalize Fd.z9x y m d=D at HDY HT;clear q1
     by_cases q5:86400 * D + clock - zone < 0∨4102444799 < 86400 * D + clock - zone
     ·have HE:Hid (out=(0,3)):=by show _=_;rw[HT.out,if_pos q5]
      clear HT;go_enter Tryz.func106,Tryz.ntmps106;go_wp2_with fail;refine(HLG.out _).mono ?_;rintro e w1 ⟨rfl,hb1⟩;have B1:=Lib.hid hb1;clear hb1;go_wp2_with fail;refine(HDY.out _).mono ?_;rintro e w2 ⟨rfl,hb2,g1,g2⟩;have B2:=Lib.hid (B1.out.trans (hb2.mono B1.out.size));clear hb2
      rcases q5 with q5 | q5
      ·go_wp2_with fail
       go_ret2;exact⟨by rw[HE.out];rfl,B2.out⟩
      ·have q6:¬ 86400 * D + clock - zone < 0:=by omega
       go_wp2_with fail;go_ret2;exact⟨by rw[HE.out];rfl,B2.out⟩
     ·have HE:Hid (out=(86400 * D + clock - zone,0)):=by show _=_;rw[HT.out,if_neg q5]
      have q6:¬ 86400 * D + clock - zone < 0:=by omega
      have q7:¬ 4102444799 < 86400 * D + clock - zone:=by omega
      clear HT q5;go_enter Tryz.func106,Tryz.ntmps106;go_wp2_with fail;refine(HLG.out _).mono ?_;rintro e w1 ⟨rfl,hb1⟩;have B1:=Lib.hid hb1;clear hb1;go_wp2_with fail;refine(HDY.out _).mono ?_;rintro e w2 ⟨rfl,hb2,g1,g2⟩;have B2:=Lib.hid (B1.out.trans (hb2.mono B1.out.size));clear hb2;go_wp2_with fail;go_ret2;exact⟨by rw[HE.out];rfl,B2.out⟩
  ·have HE:Hid (out=(0,1)):=by show _=_;rw[HT.out,if_pos (.inr e1)]
   clear HT e1;go_enter Tryz.func106,Tryz.ntmps106;go_wp2_with fail;go_ret2;exact⟨by rw[HE.out];rfl,Below.refl _ _⟩
theorem q5m (r:Fd.Dr) (R:Nat) (w:World) (h:DrS w R r) :
  Calls Tryz.prog 107 #[.pointer (some ⟨R,0,none⟩),.string (st [58])] w fun e w'=>e=.returned (.int .i64 (Fd.z2y [58] r).1)∧DrS w' R (Fd.z2y [58] r).2∧Ap (fun b=>b=R) w w'∧-400000000≤(Fd.z2y [58] r).1∧(Fd.z2y [58] r).1≤400000000:=by
 have hst:∀ l:List UInt8,(st l).toList=l:=fun l=>Lib.toList_data _
 have HH:=Lib.hid (fun (W:World) (rr:Fd.Dr) (hW:DrS W R rr)=>z1b 2 23 rr R W hW (by decide));have HM:=Lib.hid (fun (W:World) (rr:Fd.Dr) (hW:DrS W R rr)=>z1b 2 59 rr R W hW (by decide));have HS:=Lib.hid (fun (W:World) (rr:Fd.Dr) (hW:DrS W R rr)=>z1m [58] rr R W hW (by decide));have K1:=Lib.hid (z1m [43,45] r R w h (by decide));have HC:Hid (Fd.z2y [58] r=((if (Fd.Y6 [43,45] r).1=45 then -1 else 1) * (3600 * (Fd.Z8 2 23 (Fd.Y6 [43,45] r).2).1 + 60 * (Fd.Z8 2 59 (Fd.Y6 [58] (Fd.Z8 2 23 (Fd.Y6 [43,45] r).2).2).2).1),(Fd.Z8 2 59 (Fd.Y6 [58] (Fd.Z8 2 23 (Fd.Y6 [43,45] r).2).2).2).2)):=rfl;generalize Fd.z2y [58] r=out at HC ⊢;generalize Fd.Y6 [43,45] r=x1 at K1 HC;clear h;obtain⟨c,b1⟩:=x1;simp only at K1 HC;go_enter Tryz.func107,Tryz.ntmps107;go_wp2_with fail;refine K1.out.mono ?_;rintro e w1 ⟨rfl,hd1,ha1⟩;have DR1:=Lib.hid hd1;have AP1:=Lib.hid ha1;clear hd1 ha1 K1;have K2:=Lib.hid (HH.out w1 _ DR1.out);generalize Fd.Z8 2 23 b1=x2 at K2 HC;obtain⟨a2,b2⟩:=x2;simp only at K2 HC
 by_cases h45:c=45
 ·have e1:((c.toNat:Int) == 45)=true:=by rw[h45];rfl
  rw[if_pos h45] at HC;clear h45;go_wp2_with fail;refine K2.out.mono ?_;rintro e w2 ⟨rfl,hd2,ha2,p1,p2⟩;have DR2:=Lib.hid hd2;have AP2:=Lib.hid (AP1.out.trans ha2);clear hd2 ha2 K2;have K3:=Lib.hid (HS.out w2 _ DR2.out);generalize Fd.Y6 [58] b2=x3 at K3 HC;go_wp2_with fail;refine K3.out.mono ?_;rintro e w3 ⟨rfl,hd3,ha3⟩;have DR3:=Lib.hid hd3;have AP3:=Lib.hid (AP2.out.trans ha3);clear hd3 ha3 K3;have K4:=Lib.hid (HM.out w3 _ DR3.out);generalize Fd.Z8 2 59 x3.2=x4 at K4 HC;obtain⟨a4,b4⟩:=x4;simp only at K4 HC;go_wp2_with fail;refine K4.out.mono ?_;rintro e w4 ⟨rfl,hd4,ha4,p3,p4⟩;have DR4:=Lib.hid hd4;have AP4:=Lib.hid (AP3.out.trans ha4);clear hd4 ha4 K4;go_wp2_with fail;go_ret;exact⟨by rw[HC.out];first | rfl | (show Ending.returned (.int .i64 _)=.returned (.int .i64 _);congr 2;omega),by rw[HC.out];exact DR4.out,AP4.out,by rw[HC.out];show _≤(-1) * (3600 * a2 + 60 * a4);omega,by rw[HC.out];show (-1) * (3600 * a2 + 60 * a4)≤_;omega⟩
 ·have e1:((c.toNat:Int) == 45)=false:=by rw[beq_eq_false_iff_ne];intro q;exact h45 (UInt8.toNat_inj.1 (by show c.toNat=45;omega))
  rw[if_neg h45] at HC;clear h45;go_wp2_with fail;refine K2.out.mono ?_;rintro e w2 ⟨rfl,hd2,ha2,p1,p2⟩;have DR2:=Lib.hid hd2;have AP2:=Lib.hid (AP1.out.trans ha2);clear hd2 ha2 K2;have K3:=Lib.hid (HS.out w2 _ DR2.out);generalize Fd.Y6 [58] b2=x3 at K3 HC;go_wp2_with fail;refine K3.out.mono ?_;rintro e w3 ⟨rfl,hd3,ha3⟩;have DR3:=Lib.hid hd3;have AP3:=Lib.hid (AP2.out.trans ha3);clear hd3 ha3 K3;have K4:=Lib.hid (HM.out w3 _ DR3.out);generalize Fd.Z8 2 59 x3.2=x4 at K4 HC;obtain⟨a4,b4⟩:=x4;simp only at K4 HC;go_wp2_with fail;refine K4.out.mono ?_;rintro e w4 ⟨rfl,hd4,ha4,p3,p4⟩;have DR4:=Lib.hid hd4;have AP4:=Lib.hid (AP3.out.trans ha4);clear hd4 ha4 K4;go_wp2_with fail;go_ret;exact⟨by rw[HC.out];first | rfl | (show Ending.returned (.int .i64 _)=.returned (.int .i64 _);congr 2;omega),by rw[HC.out];exact DR4.out,AP4.out,by rw[HC.out];show _≤1 * (3600 * a2 + 60 * a4);omega,by rw[HC.out];show 1 * (3600 * a2 + 60 * a4)≤_;omega⟩
theorem q7f (r:Fd.Dr) (R:Nat) (w:World) (h:DrS w R r) :
  Calls Tryz.prog 107 #[.pointer (some ⟨R,0,none⟩),.string (st [])] w fun e w'=>e=.returned (.int .i64 (Fd.z2y [] r).1)∧DrS w' R (Fd.z2y [] r).2∧Ap (fun b=>b=R) w w'∧-400000000≤(Fd.z2y [] r).1∧(Fd.z2y [] r).1≤400000000:=by
 have hst:∀ l:List UInt8,(st l).toList=l:=fun l=>Lib.toList_data _
 have HH:=Lib.hid (fun (W:World) (rr:Fd.Dr) (hW:DrS W R rr)=>z1b 2 23 rr R W hW (by decide));have HM:=Lib.hid (fun (W:World) (rr:Fd.Dr) (hW:DrS W R rr)=>z1b 2 59 rr R W hW (by decide));have HS:=Lib.hid (fun (W:World) (rr:Fd.Dr) (hW:DrS W R rr)=>z1m [58] rr R W hW (by decide));have K1:=Lib.hid (z1m [43,45] r R w h (by decide));have HC:Hid (Fd.z2y [] r=((if (Fd.Y6 [43,45] r).1=45 then -1 else 1) * (3600 * (Fd.Z8 2 23 (Fd.Y6 [43,45] r).2).1 + 60 * (Fd.Z8 2 59 (Fd.Z8 2 23 (Fd.Y6 [43,45] r).2).2).1),(Fd.Z8 2 59 (Fd.Z8 2 23 (Fd.Y6 [43,45] r).2).2).2)):=rfl;generalize Fd.z2y [] r=out at HC ⊢;generalize Fd.Y6 [43,45] r=x1 at K1 HC;clear h;obtain⟨c,b1⟩:=x1;simp only at K1 HC;go_enter Tryz.func107,Tryz.ntmps107;go_wp2_with fail;refine K1.out.mono ?_;rintro e w1 ⟨rfl,hd1,ha1⟩;have DR1:=Lib.hid hd1;have AP1:=Lib.hid ha1;clear hd1 ha1 K1;have K2:=Lib.hid (HH.out w1 _ DR1.out);generalize Fd.Z8 2 23 b1=x2 at K2 HC;obtain⟨a2,b2⟩:=x2;simp only at K2 HC
 by_cases h45:c=45
 ·have e1:((c.toNat:Int) == 45)=true:=by rw[h45];rfl
  rw[if_pos h45] at HC;clear h45;go_wp2_with fail;refine K2.out.mono ?_;rintro e w2 ⟨rfl,hd2,ha2,p1,p2⟩;have DR2:=Lib.hid hd2;have AP2:=Lib.hid (AP1.out.trans ha2);clear hd2 ha2 K2;have K4:=Lib.hid (HM.out w2 _ DR2.out);generalize Fd.Z8 2 59 b2=x4 at K4 HC;obtain⟨a4,b4⟩:=x4;simp only at K4 HC;go_wp2_with fail;refine K4.out.mono ?_;rintro e w4 ⟨rfl,hd4,ha4,p3,p4⟩;have DR4:=Lib.hid hd4;have AP4:=Lib.hid (AP2.out.trans ha4);clear hd4 ha4 K4;go_wp2_with fail;go_ret;exact⟨by rw[HC.out];first | rfl | (show Ending.returned (.int .i64 _)=.returned (.int .i64 _);congr 2;omega),by rw[HC.out];exact DR4.out,AP4.out,by rw[HC.out];show _≤(-1) * (3600 * a2 + 60 * a4);omega,by rw[HC.out];show (-1) * (3600 * a2 + 60 * a4)≤_;omega⟩
 ·have e1:((c.toNat:Int) == 45)=false:=by rw[beq_eq_false_iff_ne];intro q;exact h45 (UInt8.toNat_inj.1 (by show c.toNat=45;omega))
  rw[if_neg h45] at HC;clear h45;go_wp2_with fail;refine K2.out.mono ?_;rintro e w2 ⟨rfl,hd2,ha2,p1,p2⟩;have DR2:=Lib.hid hd2;have AP2:=Lib.hid (AP1.out.trans ha2);clear hd2 ha2 K2;have K4:=Lib.hid (HM.out w2 _ DR2.out);generalize Fd.Z8 2 59 b2=x4 at K4 HC;obtain⟨a4,b4⟩:=x4;simp only at K4 HC;go_wp2_with fail;refine K4.out.mono ?_;rintro e w4 ⟨rfl,hd4,ha4,p3,p4⟩;have DR4:=Lib.hid hd4;have AP4:=Lib.hid (AP2.out.trans ha4);clear hd4 ha4 K4;go_wp2_with fail;go_ret;exact⟨by rw[HC.out];first | rfl | (show Ending.returned (.int .i64 _)=.returned (.int .i64 _);congr 2;omega),by rw[HC.out];exact DR4.out,AP4.out,by rw[HC.out];show _≤1 * (3600 * a2 + 60 * a4);omega,by rw[HC.out];show 1 * (3600 * a2 + 60 * a4)≤_;omega⟩
end Go.Proofs.YtjonkbdldebkiaaGreatDoor
namespace Fd
theorem j9f (c:UInt8):z2h c=((decide (97≤(c.toNat:Int)) && decide ((c.toNat:Int)≤122)) || (decide (65≤(c.toNat:Int)) && decide ((c.toNat:Int)≤90))):=by
 have e:∀ a b:UInt8,decide (a≤b)=decide (((a.toNat:Nat):Int)≤(b.toNat:Int)):=by
  intro a b;rw[Bool.eq_iff_iff,decide_eq_true_iff,decide_eq_true_iff,UInt8.le_iff_toNat_le];omega
 unfold z2h;rw[e 97 c,e c 122,e 65 c,e c 90];rfl
theorem three_no (s:Bs) (sh:Bool) (k:Nat) (hk:k < 3) (h:∀ q:k < s.length,z2h s[k]=false):z1r ⟨s,sh⟩=([],⟨[],true⟩):=by
 unfold z1r;rw[if_neg];rintro ⟨h1,h2⟩;have hks:k < s.length:=by simp only at h1;omega
 rw[List.all_eq_true] at h2;have hm:s[k] ∈ s.take 3:=List.mem_take_iff_getElem.2 ⟨k,by omega,rfl⟩;have:=h2 _ hm;rw[h hks] at this
 cases this
end Fd
namespace Go.Proofs.YtjonkbdldebkiaaGreatDoor
open Go.RowKit
theorem q7g (c:UInt8) (w:World) :
  Calls Tryz.prog 108 #[.int .u8 c.toNat] w fun e w'=>e=.returned (.bool (Fd.z2h c))∧w'=w:=by
 have HL:=Lib.hid (Fd.j9f c);go_enter Tryz.func108,Tryz.ntmps108;go_wp2_with fail
 all_goals (go_ret;refine⟨Z7 ?_,rfl⟩;rw[HL.out];first | rfl | (simp[*];done) | (simp[*];omega))
theorem j1m (r:Fd.Dr) (R:Nat) (w:World) (h:DrS w R r) (hs:r.s.length≤1000000) :
  Calls Tryz.prog 109 #[.pointer (some ⟨R,0,none⟩),.int .i64 3,.func (.func 108) #[] #[]] w fun e w'=>e=.returned (.string (st (Fd.z1r r).1))∧DrS w' R (Fd.z1r r).2∧Ap (fun b=>b=R) w w':=by
 obtain⟨s,sh⟩:=r;simp only at hs;have RB:=Lib.hid h;have c0:w.cell? ⟨R,0,none⟩=some (.string (st s)):=Blk.cell h 0;have c1:w.cell? ⟨R,1,none⟩=some (.bool sh):=Blk.cell h 1;have f0:=Blk.frozen h 0;have f1:=Blk.frozen h 1;clear h;have HNO:=Lib.hid (Fd.three_no s sh);have hss:(st s).size=s.length:=y9 s;have HSS:=Lib.hid hss;have HST:Hid (∀ W:World,((W.setCell ⟨R,0,none⟩ (.string (st []))).setCell ⟨R,1,none⟩ (.bool true))=((W.setCell ⟨R,0,none⟩ (.string ⟨#[]⟩)).setCell ⟨R,1,none⟩ (.bool true))):=fun _=>rfl
 clear hss;go_enter Tryz.func109,Tryz.ntmps109;go_wp2_with fail
 go_loopw [10] (fun i wr=>∃ k:Nat,k≤3∧i=.int .i64 k∧k≤s.length∧Hid ((s.take k).all Fd.z2h=true)∧Hid (w=wr)) (fun i _=>3 - (intOf i).toNat)
 case atStart=>exact⟨0,Nat.zero_le _,rfl,Nat.zero_le _,rfl,by first | exact rfl | exact trivial⟩
 case round =>
  obtain⟨k,hk,rfl,hks,HA,HW⟩:=hrel;have hw:=HW.out;clear HW;subst hw
  by_cases hlt:k < 3
  ·by_cases h1:k < s.length
   ·have s1:k < (st s).size:=by rw[HSS.out];exact h1
    have hget:∀ q:k < (st s).size,(st s)[k]'q=s[k]:=fun _=>rfl
    have HLT:=Lib.hid (q7g s[k] w);have HTK:Hid (s.take (k + 1)=s.take k++[s[k]]):=List.take_succ_eq_append_getElem h1;obtain⟨b,hb⟩:∃ b,Fd.z2h s[k]=b:=⟨_,rfl⟩;rw[hb] at HLT;have HB:=Lib.hid hb;clear hb;go_wp2_with fail;refine HLT.out.mono ?_;rintro e w1 ⟨rfl,hw1⟩;subst w1
    cases b with
    | true =>
     go_wp2_with fail;go_roundw
     case rel=>exact⟨k + 1,by omega,by go_num,by omega,by show _=_;rw[HTK.out,List.all_append,HA.out];simp[HB.out],by first | exact rfl | exact trivial⟩
     case measure=>simp[intOf];omega
    | false =>
     have HE:Hid (Fd.z1r ⟨s,sh⟩=([],⟨[],true⟩)):=HNO.out k hlt (fun q=>HB.out);go_wp2_with fail;go_ret;exact⟨by rw[HE.out];rfl,by rw[HE.out];exact Blk.set_ (Blk.set_ RB.out 0 _) 1 _,((Ap.refl (fun b=>b=R) w).setCell (p:=⟨R,0,none⟩) rfl _).setCell (p:=⟨R,1,none⟩) rfl _⟩
   ·have s1:¬ k < (st s).size:=by rw[HSS.out];exact h1
    have HE:Hid (Fd.z1r ⟨s,sh⟩=([],⟨[],true⟩)):=HNO.out k hlt (fun q=>absurd q h1);go_wp2_with fail;go_ret;exact⟨by rw[HE.out];rfl,by rw[HE.out];exact Blk.set_ (Blk.set_ RB.out 0 _) 1 _,((Ap.refl (fun b=>b=R) w).setCell (p:=⟨R,0,none⟩) rfl _).setCell (p:=⟨R,1,none⟩) rfl _⟩
  ·have hke:k=3:=by omega
   subst hke;have HE:Hid (Fd.z1r ⟨s,sh⟩=(s.take 3,⟨s.drop 3,sh⟩)):=by
    show _=_;unfold Fd.z1r;rw[if_pos ⟨hks,HA.out⟩]
   have s1:3≤(st s).size:=by rw[HSS.out];exact hks
   have hx1:(st s).extract 0 3=st (s.take 3):=by rw[Z9];rfl
   have hx2:(st s).extract 3 (st s).size=st (s.drop 3):=by
    rw[Z9,HSS.out,List.take_of_length_le]
    ·rfl
    ·show (s.drop 3).length≤_;rw[List.length_drop];omega
   go_wp2_with fail;go_ret;exact⟨by rw[HE.out];rfl,by rw[HE.out];exact Blk.set_ RB.out 0 _,(Ap.refl (fun b=>b=R) w).setCell (p:=⟨R,0,none⟩) rfl _⟩
end Go.Proofs.YtjonkbdldebkiaaGreatDoor
namespace Fd
theorem idx_none (x:Bs) (h:∀ j (q:j < z08.length),z08[j] ≠ x):z08.idxOf? x=none:=by
 unfold List.idxOf?;rw[List.findIdx?_eq_none_iff];intro y hy;obtain⟨j,hj,e⟩:=List.mem_iff_getElem.1 hy;rw[beq_eq_false_iff_ne,← e];exact h j hj
theorem z1k (x:Bs) (k:Nat) (hk:k < z08.length) (h:∀ j (q:j < k) (q2:j < z08.length),z08[j] ≠ x) (he:z08[k]=x):z08.idxOf? x=some k:=by
 unfold List.idxOf?;rw[List.findIdx?_eq_some_iff_getElem];refine⟨hk,by rw[he];simp,fun j hj=>?_⟩;rw[beq_iff_eq];exact h j hj (by omega)
theorem month_is (r:Dr):z5a r=match z08.idxOf? (z1r r).1 with
 | none=>(0,⟨(z1r r).2.s,true⟩)
 | some k=>((k:Int) + 1,(z1r r).2):=rfl
end Fd
namespace Go.Proofs.YtjonkbdldebkiaaGreatDoor
open Go.RowKit
theorem dr_month (r:Fd.Dr) (R:Nat) (w:World) (h:DrS w R r) (hs:r.s.length≤1000000) :
  Calls Tryz.prog 110 #[.pointer (some ⟨R,0,none⟩)] w fun e w'=>e=.returned (.int .i64 (Fd.z5a r).1)∧DrS w' R (Fd.z5a r).2∧Ap (fun b=>b=R) w w'∧0≤(Fd.z5a r).1∧(Fd.z5a r).1≤12:=by
 have hst:∀ l:List UInt8,(st l).toList=l:=fun l=>Lib.toList_data _
 have K1:=Lib.hid (j1m r R w h hs);have HM:=Lib.hid (Fd.month_is r);generalize Fd.z5a r=out at HM ⊢;generalize Fd.z1r r=x1 at K1 HM;obtain⟨x,b1⟩:=x1;simp only at K1 HM;clear h hs;go_enter Tryz.func110,Tryz.ntmps110;go_wp2_with fail;refine K1.out.mono ?_;rintro e w1 ⟨rfl,hd1,ha1⟩;have DR:=Lib.hid hd1;have AP:=Lib.hid ha1;clear hd1 ha1 K1;go_wp2_with fail
 go_loopw [4] (fun k wr=>∃ j:Nat,j≤12∧k=.int .i64 ((j:Int) + 1)∧Hid (∀ i (q:i < j) (q2:i < Fd.z08.length),Fd.z08[i] ≠ x)∧Hid (w1=wr)) (fun k _=>13 - (intOf k).toNat)
 case atStart=>exact⟨0,Nat.zero_le _,rfl,fun i q=>absurd q (Nat.not_lt_zero _),by first | exact rfl | exact trivial⟩
 case round =>
  obtain⟨j,hj,rfl,HN,HW⟩:=hrel;have hw:=HW.out;clear HW;subst hw
  rcases (by omega:j=0∨j=1∨j=2∨j=3∨j=4∨j=5∨j=6∨j=7∨j=8∨j=9∨j=10∨j=11∨j=12) with e | e | e | e | e | e | e | e | e | e | e | e | e
  ·subst e
   have e1:(⟨#[74,97,110,70,101,98,77,97,114,65,112,114,77,97,121,74,117,110,74,117,108,65,117,103,83,101,112,79,99,116,78,111,118,68,101,99]⟩:ByteArray).extract 0 3=st [74,97,110]:=rfl
   by_cases hx:x=[74,97,110]
   ·have HE:Hid (out=(1,b1)):=by show _=_;rw[HM.out,Fd.z1k x 0 (by decide) HN.out (by rw[hx];rfl)];rfl
    have e2:([74,97,110] == x)=true:=by rw[hx];rfl
    clear hx;go_wp2_with fail;go_ret;exact⟨by rw[HE.out];rfl,by rw[HE.out];exact DR.out,AP.out,by rw[HE.out];exact(by decide:(0:Int)≤1),by rw[HE.out];exact(by decide:(1:Int)≤12)⟩
   ·have HN2:Hid (∀ i (q:i < 1) (q2:i < Fd.z08.length),Fd.z08[i] ≠ x):=by
     intro i q q2
     rcases (by omega:i < 0∨i=0) with q3 | q3
     ·exact HN.out i q3 q2
     ·subst q3;exact fun e=>hx e.symm
    have e2:([74,97,110] == x)=false:=beq_eq_false_iff_ne.2 (fun e=>hx e.symm);clear hx;go_wp2_with fail;go_roundw
    case rel=>exact⟨1,by omega,by first | rfl | go_num,HN2,by first | exact rfl | exact trivial⟩
    case measure=>simp[intOf]
  ·subst e
   have e1:(⟨#[74,97,110,70,101,98,77,97,114,65,112,114,77,97,121,74,117,110,74,117,108,65,117,103,83,101,112,79,99,116,78,111,118,68,101,99]⟩:ByteArray).extract 3 6=st [70,101,98]:=rfl
   by_cases hx:x=[70,101,98]
   ·have HE:Hid (out=(2,b1)):=by show _=_;rw[HM.out,Fd.z1k x 1 (by decide) HN.out (by rw[hx];rfl)];rfl
    have e2:([70,101,98] == x)=true:=by rw[hx];rfl
    clear hx;go_wp2_with fail;go_ret;exact⟨by rw[HE.out];rfl,by rw[HE.out];exact DR.out,AP.out,by rw[HE.out];exact(by decide:(0:Int)≤2),by rw[HE.out];exact(by decide:(2:Int)≤12)⟩
   ·have HN2:Hid (∀ i (q:i < 2) (q2:i < Fd.z08.length),Fd.z08[i] ≠ x):=by
     intro i q q2
     rcases (by omega:i < 1∨i=1) with q3 | q3
     ·exact HN.out i q3 q2
     ·subst q3;exact fun e=>hx e.symm
    have e2:([70,101,98] == x)=false:=beq_eq_false_iff_ne.2 (fun e=>hx e.symm);clear hx;go_wp2_with fail;go_roundw
    case rel=>exact⟨2,by omega,by first | rfl | go_num,HN2,by first | exact rfl | exact trivial⟩
    case measure=>simp[intOf]
  ·subst e
   have e1:(⟨#[74,97,110,70,101,98,77,97,114,65,112,114,77,97,121,74,117,110,74,117,108,65,117,103,83,101,112,79,99,116,78,111,118,68,101,99]⟩:ByteArray).extract 6 9=st [77,97,114]:=rfl
   by_cases hx:x=[77,97,114]
   ·have HE:Hid (out=(3,b1)):=by show _=_;rw[HM.out,Fd.z1k x 2 (by decide) HN.out (by rw[hx];rfl)];rfl
    have e2:([77,97,114] == x)=true:=by rw[hx];rfl
    clear hx;go_wp2_with fail;go_ret;exact⟨by rw[HE.out];rfl,by rw[HE.out];exact DR.out,AP.out,by rw[HE.out];exact(by decide:(0:Int)≤3),by rw[HE.out];exact(by decide:(3:Int)≤12)⟩
   ·have HN2:Hid (∀ i (q:i < 3) (q2:i < Fd.z08.length),Fd.z08[i] ≠ x):=by
     intro i q q2
     rcases (by omega:i < 2∨i=2) with q3 | q3
     ·exact HN.out i q3 q2
     ·subst q3;exact fun e=>hx e.symm
    have e2:([77,97,114] == x)=false:=beq_eq_false_iff_ne.2 (fun e=>hx e.symm);clear hx;go_wp2_with fail;go_roundw
    case rel=>exact⟨3,by omega,by first | rfl | go_num,HN2,by first | exact rfl | exact trivial⟩
    case measure=>simp[intOf]
  ·subst e
   have e1:(⟨#[74,97,110,70,101,98,77,97,114,65,112,114,77,97,121,74,117,110,74,117,108,65,117,103,83,101,112,79,99,116,78,111,118,68,101,99]⟩:ByteArray).extract 9 12=st [65,112,114]:=rfl
   by_cases hx:x=[65,112,114]
   ·have HE:Hid (out=(4,b1)):=by show _=_;rw[HM.out,Fd.z1k x 3 (by decide) HN.out (by rw[hx];rfl)];rfl
    have e2:([65,112,114] == x)=true:=by rw[hx];rfl
    clear hx;go_wp2_with fail;go_ret;exact⟨by rw[HE.out];rfl,by rw[HE.out];exact DR.out,AP.out,by rw[HE.out];exact(by decide:(0:Int)≤4),by rw[HE.out];exact(by decide:(4:Int)≤12)⟩
   ·have HN2:Hid (∀ i (q:i < 4) (q2:i < Fd.z08.length),Fd.z08[i] ≠ x):=by
     intro i q q2
     rcases (by omega:i < 3∨i=3) with q3 | q3
     ·exact HN.out i q3 q2
     ·subst q3;exact fun e=>hx e.symm
    have e2:([65,112,114] == x)=false:=beq_eq_false_iff_ne.2 (fun e=>hx e.symm);clear hx;go_wp2_with fail;go_roundw
    case rel=>exact⟨4,by omega,by first | rfl | go_num,HN2,by first | exact rfl | exact trivial⟩
    case measure=>simp[intOf]
  ·subst e
   have e1:(⟨#[74,97,110,70,101,98,77,97,114,65,112,114,77,97,121,74,117,110,74,117,108,65,117,103,83,101,112,79,99,116,78,111,118,68,101,99]⟩:ByteArray).extract 12 15=st [77,97,121]:=rfl
   by_cases hx:x=[77,97,121]
   ·have HE:Hid (out=(5,b1)):=by show _=_;rw[HM.out,Fd.z1k x 4 (by decide) HN.out (by rw[hx];rfl)];rfl
    have e2:([77,97,121] == x)=true:=by rw[hx];rfl
    clear hx;go_wp2_with fail;go_ret;exact⟨by rw[HE.out];rfl,by rw[HE.out];exact DR.out,AP.out,by rw[HE.out];exact(by decide:(0:Int)≤5),by rw[HE.out];exact(by decide:(5:Int)≤12)⟩
   ·have HN2:Hid (∀ i (q:i < 5) (q2:i < Fd.z08.length),Fd.z08[i] ≠ x):=by
     intro i q q2
     rcases (by omega:i < 4∨i=4) with q3 | q3
     ·exact HN.out i q3 q2
     ·subst q3;exact fun e=>hx e.symm
    have e2:([77,97,121] == x)=false:=beq_eq_false_iff_ne.2 (fun e=>hx e.symm);clear hx;go_wp2_with fail;go_roundw
    case rel=>exact⟨5,by omega,by first | rfl | go_num,HN2,by first | exact rfl | exact trivial⟩
    case measure=>simp[intOf]
  ·subst e
   have e1:(⟨#[74,97,110,70,101,98,77,97,114,65,112,114,77,97,121,74,117,110,74,117,108,65,117,103,83,101,112,79,99,116,78,111,118,68,101,99]⟩:ByteArray).extract 15 18=st [74,117,110]:=rfl
   by_cases hx:x=[74,117,110]
   ·have HE:Hid (out=(6,b1)):=by show _=_;rw[HM.out,Fd.z1k x 5 (by decide) HN.out (by rw[hx];rfl)];rfl
    have e2:([74,117,110] == x)=true:=by rw[hx];rfl
    clear hx;go_wp2_with fail;go_ret;exact⟨by rw[HE.out];rfl,by rw[HE.out];exact DR.out,AP.out,by rw[HE.out];exact(by decide:(0:Int)≤6),by rw[HE.out];exact(by decide:(6:Int)≤12)⟩
   ·have HN2:Hid (∀ i (q:i < 6) (q2:i < Fd.z08.length),Fd.z08[i] ≠ x):=by
     intro i q q2
     rcases (by omega:i < 5∨i=5) with q3 | q3
     ·exact HN.out i q3 q2
     ·subst q3;exact fun e=>hx e.symm
    have e2:([74,117,110] == x)=false:=beq_eq_false_iff_ne.2 (fun e=>hx e.symm);clear hx;go_wp2_with fail;go_roundw
    case rel=>exact⟨6,by omega,by first | rfl | go_num,HN2,by first | exact rfl | exact trivial⟩
    case measure=>simp[intOf]
  ·subst e
   have e1:(⟨#[74,97,110,70,101,98,77,97,114,65,112,114,77,97,121,74,117,110,74,117,108,65,117,103,83,101,112,79,99,116,78,111,118,68,101,99]⟩:ByteArray).extract 18 21=st [74,117,108]:=rfl
   by_cases hx:x=[74,117,108]
   ·have HE:Hid (out=(7,b1)):=by show _=_;rw[HM.out,Fd.z1k x 6 (by decide) HN.out (by rw[hx];rfl)];rfl
    have e2:([74,117,108] == x)=true:=by rw[hx];rfl
    clear hx;go_wp2_with fail;go_ret;exact⟨by rw[HE.out];rfl,by rw[HE.out];exact DR.out,AP.out,by rw[HE.out];exact(by decide:(0:Int)≤7),by rw[HE.out];exact(by decide:(7:Int)≤12)⟩
   ·have HN2:Hid (∀ i (q:i < 7) (q2:i < Fd.z08.length),Fd.z08[i] ≠ x):=by
     intro i q q2
     rcases (by omega:i < 6∨i=6) with q3 | q3
     ·exact HN.out i q3 q2
     ·subst q3;exact fun e=>hx e.symm
    have e2:([74,117,108] == x)=false:=beq_eq_false_iff_ne.2 (fun e=>hx e.symm);clear hx;go_wp2_with fail;go_roundw
    case rel=>exact⟨7,by omega,by first | rfl | go_num,HN2,by first | exact rfl | exact trivial⟩
    case measure=>simp[intOf]
  ·subst e
   have e1:(⟨#[74,97,110,70,101,98,77,97,114,65,112,114,77,97,121,74,117,110,74,117,108,65,117,103,83,101,112,79,99,116,78,111,118,68,101,99]⟩:ByteArray).extract 21 24=st [65,117,103]:=rfl
   by_cases hx:x=[65,117,103]
   ·have HE:Hid (out=(8,b1)):=by show _=_;rw[HM.out,Fd.z1k x 7 (by decide) HN.out (by rw[hx];rfl)];rfl
    have e2:([65,117,103] == x)=true:=by rw[hx];rfl
    clear hx;go_wp2_with fail;go_ret;exact⟨by rw[HE.out];rfl,by rw[HE.out];exact DR.out,AP.out,by rw[HE.out];exact(by decide:(0:Int)≤8),by rw[HE.out];exact(by decide:(8:Int)≤12)⟩
   ·have HN2:Hid (∀ i (q:i < 8) (q2:i < Fd.z08.length),Fd.z08[i] ≠ x):=by
     intro i q q2
     rcases (by omega:i < 7∨i=7) with q3 | q3
     ·exact HN.out i q3 q2
     ·subst q3;exact fun e=>hx e.symm
    have e2:([65,117,103] == x)=false:=beq_eq_false_iff_ne.2 (fun e=>hx e.symm);clear hx;go_wp2_with fail;go_roundw
    case rel=>exact⟨8,by omega,by first | rfl | go_num,HN2,by first | exact rfl | exact trivial⟩
    case measure=>simp[intOf]
  ·subst e
   have e1:(⟨#[74,97,110,70,101,98,77,97,114,65,112,114,77,97,121,74,117,110,74,117,108,65,117,103,83,101,112,79,99,116,78,111,118,68,101,99]⟩:ByteArray).extract 24 27=st [83,101,112]:=rfl
   by_cases hx:x=[83,101,112]
   ·have HE:Hid (out=(9,b1)):=by show _=_;rw[HM.out,Fd.z1k x 8 (by decide) HN.out (by rw[hx];rfl)];rfl
    have e2:([83,101,112] == x)=true:=by rw[hx];rfl
    clear hx;go_wp2_with fail;go_ret;exact⟨by rw[HE.out];rfl,by rw[HE.out];exact DR.out,AP.out,by rw[HE.out];exact(by decide:(0:Int)≤9),by rw[HE.out];exact(by decide:(9:Int)≤12)⟩
   ·have HN2:Hid (∀ i (q:i < 9) (q2:i < Fd.z08.length),Fd.z08[i] ≠ x):=by
     intro i q q2
     rcases (by omega:i < 8∨i=8) with q3 | q3
     ·exact HN.out i q3 q2
     ·subst q3;exact fun e=>hx e.symm
    have e2:([83,101,112] == x)=false:=beq_eq_false_iff_ne.2 (fun e=>hx e.symm);clear hx;go_wp2_with fail;go_roundw
    case rel=>exact⟨9,by omega,by first | rfl | go_num,HN2,by first | exact rfl | exact trivial⟩
    case measure=>simp[intOf]
  ·subst e
   have e1:(⟨#[74,97,110,70,101,98,77,97,114,65,112,114,77,97,121,74,117,110,74,117,108,65,117,103,83,101,112,79,99,116,78,111,118,68,101,99]⟩:ByteArray).extract 27 30=st [79,99,116]:=rfl
   by_cases hx:x=[79,99,116]
   ·have HE:Hid (out=(10,b1)):=by show _=_;rw[HM.out,Fd.z1k x 9 (by decide) HN.out (by rw[hx];rfl)];rfl
    have e2:([79,99,116] == x)=true:=by rw[hx];rfl
    clear hx;go_wp2_with fail;go_ret;exact⟨by rw[HE.out];rfl,by rw[HE.out];exact DR.out,AP.out,by rw[HE.out];exact(by decide:(0:Int)≤10),by rw[HE.out];exact(by decide:(10:Int)≤12)⟩
   ·have HN2:Hid (∀ i (q:i < 10) (q2:i < Fd.z08.length),Fd.z08[i] ≠ x):=by
     intro i q q2
     rcases (by omega:i < 9∨i=9) with q3 | q3
     ·exact HN.out i q3 q2
     ·subst q3;exact fun e=>hx e.symm
    have e2:([79,99,116] == x)=false:=beq_eq_false_iff_ne.2 (fun e=>hx e.symm);clear hx;go_wp2_with fail;go_roundw
    case rel=>exact⟨10,by omega,by first | rfl | go_num,HN2,by first | exact rfl | exact trivial⟩
    case measure=>simp[intOf]
  ·subst e
   have e1:(⟨#[74,97,110,70,101,98,77,97,114,65,112,114,77,97,121,74,117,110,74,117,108,65,117,103,83,101,112,79,99,116,78,111,118,68,101,99]⟩:ByteArray).extract 30 33=st [78,111,118]:=rfl
   by_cases hx:x=[78,111,118]
   ·have HE:Hid (out=(11,b1)):=by show _=_;rw[HM.out,Fd.z1k x 10 (by decide) HN.out (by rw[hx];rfl)];rfl
    have e2:([78,111,118] == x)=true:=by rw[hx];rfl
    clear hx;go_wp2_with fail;go_ret;exact⟨by rw[HE.out];rfl,by rw[HE.out];exact DR.out,AP.out,by rw[HE.out];exact(by decide:(0:Int)≤11),by rw[HE.out];exact(by decide:(11:Int)≤12)⟩
   ·have HN2:Hid (∀ i (q:i < 11) (q2:i < Fd.z08.length),Fd.z08[i] ≠ x):=by
     intro i q q2
     rcases (by omega:i < 10∨i=10) with q3 | q3
     ·exact HN.out i q3 q2
     ·subst q3;exact fun e=>hx e.symm
    have e2:([78,111,118] == x)=false:=beq_eq_false_iff_ne.2 (fun e=>hx e.symm);clear hx;go_wp2_with fail;go_roundw
    case rel=>exact⟨11,by omega,by first | rfl | go_num,HN2,by first | exact rfl | exact trivial⟩
    case measure=>simp[intOf]
  ·subst e
   have e1:(⟨#[74,97,110,70,101,98,77,97,114,65,112,114,77,97,121,74,117,110,74,117,108,65,117,103,83,101,112,79,99,116,78,111,118,68,101,99]⟩:ByteArray).extract 33 36=st [68,101,99]:=rfl
   by_cases hx:x=[68,101,99]
   ·have HE:Hid (out=(12,b1)):=by show _=_;rw[HM.out,Fd.z1k x 11 (by decide) HN.out (by rw[hx];rfl)];rfl
    have e2:([68,101,99] == x)=true:=by rw[hx];rfl
    clear hx;go_wp2_with fail;go_ret;exact⟨by rw[HE.out];rfl,by rw[HE.out];exact DR.out,AP.out,by rw[HE.out];exact(by decide:(0:Int)≤12),by rw[HE.out];exact(by decide:(12:Int)≤12)⟩
   ·have HN2:Hid (∀ i (q:i < 12) (q2:i < Fd.z08.length),Fd.z08[i] ≠ x):=by
     intro i q q2
     rcases (by omega:i < 11∨i=11) with q3 | q3
     ·exact HN.out i q3 q2
     ·subst q3;exact fun e=>hx e.symm
    have e2:([68,101,99] == x)=false:=beq_eq_false_iff_ne.2 (fun e=>hx e.symm);clear hx;go_wp2_with fail;go_roundw
    case rel=>exact⟨12,by omega,by first | rfl | go_num,HN2,by first | exact rfl | exact trivial⟩
    case measure=>simp[intOf]
  ·subst e
   have HE:Hid (out=(0,⟨b1.s,true⟩)):=by show _=_;rw[HM.out,Fd.idx_none x (fun i q=>HN.out i (by have:Fd.z08.length=12:=rfl;omega) q)]
   have c1:w1.cell? ⟨R,1,none⟩=some (.bool b1.short):=Blk.cell DR.out 1;have f1:w1.frozen? ⟨R,1,none⟩=false:=Blk.frozen DR.out 1;go_wp2_with fail;go_ret;exact⟨by rw[HE.out];rfl,by rw[HE.out];exact Blk.set_ DR.out 1 _,AP.out.setCell (p:=⟨R,1,none⟩) rfl _,by rw[HE.out];exact(by decide:(0:Int)≤0),by rw[HE.out];exact(by decide:(0:Int)≤12)⟩
end Go.Proofs.YtjonkbdldebkiaaGreatDoor
