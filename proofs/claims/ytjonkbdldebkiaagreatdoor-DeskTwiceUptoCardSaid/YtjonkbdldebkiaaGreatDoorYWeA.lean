/- Contracts of the program's Stays (is markup clean, and as it is printed) and of feed.Check. No condition. -/
import Derived.Test.YtjonkbdldebkiaaGreatDoorYUrlPlain
import Derived.Test.YtjonkbdldebkiaaGreatDoorYMkHtml
import Derived.Test.YtjonkbdldebkiaaGreatDoorYMkRep6
import Derived.Test.YtjonkbdldebkiaaGreatDoorYUrlD
set_option linter.unusedVariables false
set_option linter.unusedSimpArgs false
set_option maxHeartbeats 8000000
set_option maxRecDepth 100000
namespace Go.Proofs.YtjonkbdldebkiaaGreatDoor
open Go.Proofs.Tryz Go.RowKit
theorem ntells (s:List UInt8) (hs:s.length≤3000):∀ t ∈ Mk.flat (Mk.build (Mk.toks s)),z8a t:=by
 intro t ht;have h1:=Mk.z8v s;have h2:=Mk.z6t (Mk.toks s);obtain⟨h4,h5⟩:=Mk.q9j _ t ht;exact⟨fun _=>z8u _ (by omega),fun a ha=>z8u _ (by have:=h5 a ha;omega)⟩
theorem j4t (s:List UInt8) (w:World) (hg:Gl w) :
  Calls prog 63 #[.string (st s)] w fun e w'=>e=.returned (.bool (Fd.q1h s))∧Below w.heap.size w w':=by
 have hst:∀ l:List UInt8,(st l).toList=l:=fun l=>Lib.toList_data _
 have HS:Hid (Fd.q1h s=(decide (s.length≤3000) && (Mk.z8r (Mk.build (Mk.toks s)) && (Mk.bytes (Mk.flat (Mk.build (Mk.toks s))) == s)))):=rfl
 by_cases h1:s.length≤3000
 ·have h2:¬ 3000 < (st s).size:=by rw[Z4];omega
  have HE:Hid (Fd.q1h s=(Mk.z8r (Mk.build (Mk.toks s)) && (Mk.bytes (Mk.flat (Mk.build (Mk.toks s))) == s))):=by show _=_;rw[HS.out,decide_eq_true h1,Bool.true_and]
  have HA:=Ld (mk_All (st s) w hg (by rw[Z4];omega));have hb1:=Mk.z8v s;have hb2:=Mk.z6t (Mk.toks s);have hb3:=Mk.q2l (Mk.build (Mk.toks s));have HT:=Ld (ntells s h1);have HB:Hid (Mk.Bld.tokB (Mk.toks s)≤549755813000∧(Mk.build (Mk.toks s)).bulk≤1048576∧(Mk.bytes (Mk.flat (Mk.build (Mk.toks s)))).length≤1099511627776):=⟨by omega,by omega,by omega⟩;clear HS h1 hb1 hb2 hb3;go_enter func63,ntmps63;go_wp2_with fail;refine HA.out.mono ?_;rintro e w1 ⟨v1,rfl,hv1,hb1⟩;have B1:=Ld hb1;have HO:=Ld (tr_Of (Mk.toks s) v1 _ w1 hv1 (fun b q=>q.2) HB.out.1);clear hv1 hb1 HA;go_wp2_with fail;refine HO.out.mono ?_;rintro e w2 ⟨v2,rfl,hv2,hb2⟩;have B2:=Ld (B1.out.trans (hb2.mono B1.out.size));have HV2:=Ld hv2;have HF:=Ld (cl_safe ((Mk.build (Mk.toks s)).bulk + 1) (Mk.build (Mk.toks s)) (Nat.lt_succ_self _) (Nat.le_trans HB.out.2.1 (by decide)) v2 _ w2 hv2 (fun b q=>q.2));clear hv2 hb2 HO B1;go_wp2_with fail;refine HF.out.mono ?_;rintro e w3 ⟨rfl,hb3⟩;have B3:=Ld (B2.out.trans (hb3.mono B2.out.size));have HV3:Hid (FoV w3 (fun x=>w1.heap.size≤x∧x < w2.heap.size) v2 (Mk.build (Mk.toks s))):=HV2.out.frame (fun b q=>⟨q,hb3.block b q.2⟩);have h23:=hb3.size;clear hb3 HF HV2 B2;obtain⟨b,hb⟩:∃ b,Mk.z8r (Mk.build (Mk.toks s))=b:=⟨_,rfl⟩;rw[hb] at HE ⊢;clear hb
  cases b with
  | false =>
   go_wp2_with fail;go_ret;exact⟨Z8 (by rw[HE.out];rfl),B3.out⟩
  | true =>
   have HK:=Ld (q79 ((Mk.build (Mk.toks s)).bulk + 1) (Mk.build (Mk.toks s)) (Nat.lt_succ_self _) (Nat.le_trans HB.out.2.1 (by decide)) v2 _ w3 HV3.out (fun b q=>Nat.lt_of_lt_of_le q.2 h23));go_wp2_with fail;refine HK.out.mono ?_;rintro e w4 ⟨v4,xs4,rfl,hv4,_,hb4⟩;have B4:=Ld (B3.out.trans (hb4.mono B3.out.size));have HBY:=Ld (j0a (Mk.flat (Mk.build (Mk.toks s))) v4 _ w4 hv4.toksV (fun b q=>q.2) HT.out HB.out.2.2);clear hv4 hb4 HK B3 HV3;go_wp2_with fail;refine HBY.out.mono ?_;rintro e w5 ⟨rfl,hb5⟩;have B5:=Ld (B4.out.trans (hb5.mono B4.out.size));clear hb5 HBY B4 HB HT;generalize Mk.bytes (Mk.flat (Mk.build (Mk.toks s)))=y at HE ⊢;go_wp2_with fail;go_ret;exact⟨Z8 (by rw[HE.out];simp[hst]),B5.out⟩
 ·have h2:3000 < (st s).size:=by rw[Z4];omega
  have HE:Hid (Fd.q1h s=false):=by show _=_;rw[HS.out,decide_eq_false h1,Bool.false_and]
  clear HS h1;go_enter func63,ntmps63;go_wp2_with fail;go_ret;exact⟨Z8 HE.out.symm,Below.refl _ _⟩
theorem q80 (s:List UInt8) (w:World) :
  Calls prog 61 #[.string (st s)] w fun e w'=>e=.returned (.bool (decide (3000 < s.length)))∧w'=w:=by
 by_cases h:3000 < s.length
 ·have h2:3000 < (st s).size:=by rw[Z4];omega
  rw[decide_eq_true h];clear h;go_enter func61,ntmps61;go_wp2_with fail;go_ret;exact⟨Z8 (decide_eq_true (by omega)),rfl⟩
 ·have h2:¬ 3000 < (st s).size:=by rw[Z4];omega
  rw[decide_eq_false h];clear h;go_enter func61,ntmps61;go_wp2_with fail;go_ret;exact⟨Z8 (decide_eq_false (by omega)),rfl⟩
theorem z3c (n:List UInt8):(n=[]∧n.isEmpty=true)∨(n ≠ []∧n.isEmpty=false):=by
 cases n with
 | nil=>exact .inl ⟨rfl,rfl⟩
 | cons _ _=>exact .inr ⟨by simp,rfl⟩
theorem q4j (x:Fd.En) (w:World) (hg:Gl w) :
  Calls prog 23 #[.agg #[.string (st x.id),.string (st x.ti),.string (st x.li),.int .i64 x.at_,.string (st x.ht)]] w fun e w'=>e=.returned (.int .i64 (Fd.z03 x))∧Below w.heap.size w w':=by
 have hst:∀ l:List UInt8,(st l).toList=l:=fun l=>Lib.toList_data _
 have HC:Hid (Fd.z03 x=if x.id=[] then 1 else if 60 < x.id.length∨3000 < x.ti.length∨3000 < x.li.length∨3000 < x.ht.length then 2 else if x.at_ < 0∨4102444799 < x.at_ then 3 else if (x.li ≠ []∧Mg.isSafe x.li=false)∨Fd.q1h x.ht=false then 4 else 0):=rfl;generalize Fd.z03 x=c at HC ⊢;obtain⟨id,ti,li,at_,ht⟩:=x;simp only at HC ⊢;have hal:=(Below.refl w.heap.size w).alloc (Lr) (.cells #[.string (st id),.string (st ti),.string (st li),.int .i64 at_,.string (st ht)] 44);have HAL:=Ld hal;have PB:=Ld (Blk.new w 44 #[.string (st id),.string (st ti),.string (st li),.int .i64 at_,.string (st ht)]);have HG:=Ld (hg.alloc (.cells #[.string (st id),.string (st ti),.string (st li),.int .i64 at_,.string (st ht)] 44));have hI:Mg.isSafe li=Mg.isSafe (st li).data.toList:=rfl;have HLT:=Ld (fun W=>q80 ti W);have HLL:=Ld (fun W=>q80 li W);have HLH:=Ld (fun W=>q80 ht W);have his:(st id).size=id.length:=Z4 id;have HIS:=Ld his;have HLI:Hid (li.length≤3000→∀ W,Calls prog 62 #[.string (st li)] W fun e w'=>e=.returned (.bool (Mg.isSafe li))∧Below W.heap.size W w'):=fun h W=>j0g (st li) W (by rw[Z4];omega)
 have HST:=Ld (fun W (hW:Gl W)=>j4t ht W hW);clear hal hI his hg
 rcases z3c id with ⟨e1,q1⟩ | ⟨e1,q1⟩
 ·have HE:Hid (c=1):=by show _=_;rw[HC.out,if_pos e1]
  clear e1;clear HC;go_enter func23,ntmps23;go_wp2_with (first | (go_at_call 61;refine(HLT.out _).mono ?_;rintro e wx ⟨rfl,hwx⟩;subst wx) | (go_at_call 61;refine(HLL.out _).mono ?_;rintro e wx ⟨rfl,hwx⟩;subst wx) | (go_at_call 61;refine(HLH.out _).mono ?_;rintro e wx ⟨rfl,hwx⟩;subst wx));go_ret;exact⟨V5 (by rw[HE.out]),HAL.out⟩
 rw[if_neg e1] at HC;clear e1
 by_cases q2:60 < id.length
 ·have HE:Hid (c=2):=by show _=_;rw[HC.out,if_pos (.inl q2)]
  have s2:60 < (st id).size:=by rw[Z4];exact q2
  clear q2;clear HC;go_enter func23,ntmps23;go_wp2_with (first | (go_at_call 61;refine(HLT.out _).mono ?_;rintro e wx ⟨rfl,hwx⟩;subst wx) | (go_at_call 61;refine(HLL.out _).mono ?_;rintro e wx ⟨rfl,hwx⟩;subst wx) | (go_at_call 61;refine(HLH.out _).mono ?_;rintro e wx ⟨rfl,hwx⟩;subst wx));go_ret;exact⟨V5 (by rw[HE.out]),HAL.out⟩
 have s2:¬ 60 < (st id).size:=by rw[Z4];exact q2
 by_cases q3:3000 < ti.length
 ·have HE:Hid (c=2):=by show _=_;rw[HC.out,if_pos (.inr (.inl q3))]
  rw[decide_eq_true q3] at HLT;clear q2 q3;clear HC;go_enter func23,ntmps23;go_wp2_with (first | (go_at_call 61;refine(HLT.out _).mono ?_;rintro e wx ⟨rfl,hwx⟩;subst wx) | (go_at_call 61;refine(HLL.out _).mono ?_;rintro e wx ⟨rfl,hwx⟩;subst wx) | (go_at_call 61;refine(HLH.out _).mono ?_;rintro e wx ⟨rfl,hwx⟩;subst wx));go_ret;exact⟨V5 (by rw[HE.out]),HAL.out⟩
 rw[decide_eq_false q3] at HLT
 by_cases q4:3000 < li.length
 ·have HE:Hid (c=2):=by show _=_;rw[HC.out,if_pos (.inr (.inr (.inl q4)))]
  rw[decide_eq_true q4] at HLL;clear q2 q3 q4;clear HC;go_enter func23,ntmps23;go_wp2_with (first | (go_at_call 61;refine(HLT.out _).mono ?_;rintro e wx ⟨rfl,hwx⟩;subst wx) | (go_at_call 61;refine(HLL.out _).mono ?_;rintro e wx ⟨rfl,hwx⟩;subst wx) | (go_at_call 61;refine(HLH.out _).mono ?_;rintro e wx ⟨rfl,hwx⟩;subst wx));go_ret;exact⟨V5 (by rw[HE.out]),HAL.out⟩
 rw[decide_eq_false q4] at HLL
 by_cases q5:3000 < ht.length
 ·have HE:Hid (c=2):=by show _=_;rw[HC.out,if_pos (.inr (.inr (.inr q5)))]
  rw[decide_eq_true q5] at HLH;clear q2 q3 q4 q5;clear HC;go_enter func23,ntmps23;go_wp2_with (first | (go_at_call 61;refine(HLT.out _).mono ?_;rintro e wx ⟨rfl,hwx⟩;subst wx) | (go_at_call 61;refine(HLL.out _).mono ?_;rintro e wx ⟨rfl,hwx⟩;subst wx) | (go_at_call 61;refine(HLH.out _).mono ?_;rintro e wx ⟨rfl,hwx⟩;subst wx));go_ret;exact⟨V5 (by rw[HE.out]),HAL.out⟩
 rw[decide_eq_false q5] at HLH;rw[if_neg (by rintro (q | q | q | q) <;> omega)] at HC
 by_cases q6:at_ < 0
 ·have HE:Hid (c=3):=by show _=_;rw[HC.out,if_pos (.inl q6)]
  clear q2 q3 q4 q5;clear HC;go_enter func23,ntmps23;go_wp2_with (first | (go_at_call 61;refine(HLT.out _).mono ?_;rintro e wx ⟨rfl,hwx⟩;subst wx) | (go_at_call 61;refine(HLL.out _).mono ?_;rintro e wx ⟨rfl,hwx⟩;subst wx) | (go_at_call 61;refine(HLH.out _).mono ?_;rintro e wx ⟨rfl,hwx⟩;subst wx));go_ret;exact⟨V5 (by rw[HE.out]),HAL.out⟩
 by_cases q7:4102444799 < at_
 ·have HE:Hid (c=3):=by show _=_;rw[HC.out,if_pos (.inr q7)]
  clear q2 q3 q4 q5;clear HC;go_enter func23,ntmps23;go_wp2_with (first | (go_at_call 61;refine(HLT.out _).mono ?_;rintro e wx ⟨rfl,hwx⟩;subst wx) | (go_at_call 61;refine(HLL.out _).mono ?_;rintro e wx ⟨rfl,hwx⟩;subst wx) | (go_at_call 61;refine(HLH.out _).mono ?_;rintro e wx ⟨rfl,hwx⟩;subst wx));go_ret;exact⟨V5 (by rw[HE.out]),HAL.out⟩
 rw[if_neg (by rintro (q | q) <;> omega)] at HC;have HLJ:=Ld (HLI.out (by omega));clear q2 q3 q4 q5 HLI;obtain⟨bs,hbs⟩:∃ b,Fd.q1h ht=b:=⟨_,rfl⟩;rw[hbs] at HST HC;clear hbs
 rcases z3c li with ⟨e8,q8⟩ | ⟨e8,q8⟩
 ·have HE:Hid (c=if bs=false then 4 else 0):=by
   show _=_;rw[HC.out]
   cases bs with
   | false=>rw[if_pos (.inr rfl),if_pos rfl]
   | true=>rw[if_neg (by rintro (q | q);exact q.1 e8;cases q),if_neg (by decide)]
  clear e8 HC HLJ;go_enter func23,ntmps23;go_wp2_with (first | (go_at_call 61;refine(HLT.out _).mono ?_;rintro e wx ⟨rfl,hwx⟩;subst wx) | (go_at_call 61;refine(HLL.out _).mono ?_;rintro e wx ⟨rfl,hwx⟩;subst wx) | (go_at_call 61;refine(HLH.out _).mono ?_;rintro e wx ⟨rfl,hwx⟩;subst wx));refine(HST.out _ HG.out).mono ?_;rintro e w1 ⟨rfl,hb1⟩;have B1:=Ld (HAL.out.trans (hb1.mono HAL.out.size));clear hb1
  cases bs with
  | false =>
   go_wp2_with fail;go_ret;exact⟨V5 (by rw[HE.out];rfl),B1.out⟩
  | true =>
   go_wp2_with fail;go_ret;exact⟨V5 (by rw[HE.out];rfl),B1.out⟩
 ·obtain⟨bi,hbi⟩:∃ b,Mg.isSafe li=b:=⟨_,rfl⟩
  rw[hbi] at HLJ HC;clear hbi
  cases bi with
  | false =>
   have HE:Hid (c=4):=by show _=_;rw[HC.out,if_pos (.inl ⟨e8,rfl⟩)]
   clear e8 HC;go_enter func23,ntmps23;go_wp2_with (first | (go_at_call 61;refine(HLT.out _).mono ?_;rintro e wx ⟨rfl,hwx⟩;subst wx) | (go_at_call 61;refine(HLL.out _).mono ?_;rintro e wx ⟨rfl,hwx⟩;subst wx) | (go_at_call 61;refine(HLH.out _).mono ?_;rintro e wx ⟨rfl,hwx⟩;subst wx));refine(HLJ.out _).mono ?_;rintro e w1 ⟨rfl,hb1⟩;have B1:=Ld (HAL.out.trans (hb1.mono HAL.out.size));clear hb1;go_wp2_with fail;go_ret;exact⟨V5 (by rw[HE.out]),B1.out⟩
  | true =>
   have HE:Hid (c=if bs=false then 4 else 0):=by
    show _=_;rw[HC.out]
    cases bs with
    | false=>rw[if_pos (.inr rfl),if_pos rfl]
    | true=>rw[if_neg (by rintro (q | q);cases q.2;cases q),if_neg (by decide)]
   clear e8 HC;go_enter func23,ntmps23;go_wp2_with (first | (go_at_call 61;refine(HLT.out _).mono ?_;rintro e wx ⟨rfl,hwx⟩;subst wx) | (go_at_call 61;refine(HLL.out _).mono ?_;rintro e wx ⟨rfl,hwx⟩;subst wx) | (go_at_call 61;refine(HLH.out _).mono ?_;rintro e wx ⟨rfl,hwx⟩;subst wx));refine(HLJ.out _).mono ?_;rintro e w1 ⟨rfl,hb1⟩;have B1:=Ld (HAL.out.trans (hb1.mono HAL.out.size));have p4:w1.cell? ⟨w.heap.size,4,none⟩=some (.string (st ht)):=Blk.cell (Blk.below PB.out hb1 (Blk.lt PB.out)) 4;have HG1:=Ld (HG.out.below hb1 HG.out.lt);clear hb1;go_wp2_with fail;refine(HST.out _ HG1.out).mono ?_;rintro e w2 ⟨rfl,hb2⟩;have B2:=Ld (B1.out.trans (hb2.mono B1.out.size));clear hb2
   cases bs with
   | false =>
    go_wp2_with fail;go_ret;exact⟨V5 (by rw[HE.out];rfl),B2.out⟩
   | true =>
    go_wp2_with fail;go_ret;exact⟨V5 (by rw[HE.out];rfl),B2.out⟩
end Go.Proofs.YtjonkbdldebkiaaGreatDoor
namespace Go.Proofs.YtjonkbdldebkiaaGreatDoor
open Go.RowKit
def enV (x:Fd.En):List Value:=[.string (st x.id),.string (st x.ti),.string (st x.li),.int .i64 x.at_,.string (st x.ht)]
def y9 (l:List Fd.En):List Value:=l.flatMap enV
def z18 (w:World) (K:Nat→Prop) (v:Value) (l:List Fd.En):Prop:=∃ ao cap,v=.slice ao l.length cap∧z19 w K ao (y9 l)∧l.length≤cap∧l.length≤maxLen
theorem z18.frame {w w':World} {K K':Nat→Prop} {v:Value} {l:List Fd.En} (h:z18 w K v l) (hk:∀ b,K b→K' b∧w'.heap[b]? = w.heap[b]?):z18 w' K' v l:=by
 obtain⟨ao,cap,h1,h2,h3⟩:=h;exact⟨ao,cap,h1,h2.frame hk,h3⟩
theorem z18.below {w w':World} {K:Nat→Prop} {v:Value} {l:List Fd.En} {B:Nat} (h:z18 w K v l) (hK:∀ b,K b→b < B) (hb:Below B w w'):z18 w' K v l:=h.frame fun b q=>⟨q,hb.block b (hK b q)⟩
theorem z18.nil (w:World) (K:Nat→Prop):z18 w K (.slice none 0 0) []:=⟨none,0,rfl,.inl rfl,Lr,Nat.zero_le _⟩
theorem Y9 (l:List Fd.En):(y9 l).length=l.length * 5:=by
 induction l with
 | nil=>rfl
 | cons a t ih=>rw[show y9 (a :: t)=enV a++y9 t from rfl,List.length_append,ih,List.length_cons];simp[enV];omega
theorem z9q (l:List Fd.En) (k:Nat) (h:k < l.length):(y9 l)[k * 5]? = some (.string (st l[k].id))∧(y9 l)[k * 5 + 1]? = some (.string (st l[k].ti))∧(y9 l)[k * 5 + 2]? = some (.string (st l[k].li))∧(y9 l)[k * 5 + 3]? = some (.int .i64 l[k].at_)∧(y9 l)[k * 5 + 4]? = some (.string (st l[k].ht)):=by
 induction l generalizing k with
 | nil=>simp at h
 | cons a t ih =>
  cases k with
  | zero=>exact⟨rfl,rfl,rfl,rfl,rfl⟩
  | succ k =>
   have h':k < t.length:=by simpa using h
   have e:y9 (a :: t)=enV a++y9 t:=rfl;have e5:(enV a).length=5:=rfl;rw[e,show (k + 1) * 5=k * 5 + 5 by omega];obtain⟨h1,h2,h3,h4,h5⟩:=ih k h';refine⟨?_,?_,?_,?_,?_⟩
   ·rw[List.getElem?_append_right (by omega),e5];simpa using h1
   ·rw[List.getElem?_append_right (by omega),e5,show k * 5 + 5 + 1 - 5=k * 5 + 1 by omega];simpa using h2
   ·rw[List.getElem?_append_right (by omega),e5,show k * 5 + 5 + 2 - 5=k * 5 + 2 by omega];simpa using h3
   ·rw[List.getElem?_append_right (by omega),e5,show k * 5 + 5 + 3 - 5=k * 5 + 3 by omega];simpa using h4
   ·rw[List.getElem?_append_right (by omega),e5,show k * 5 + 5 + 4 - 5=k * 5 + 4 by omega];simpa using h5
theorem z18.at_ {w:World} {K:Nat→Prop} {v:Value} {l:List Fd.En} (h:z18 w K v l):∃ g o cap,(l ≠ []→K g)∧(v=.slice (some ⟨g,o,none⟩) l.length cap∨∃ ao,v=.slice ao 0 cap∧l=[])∧∀ k (hk:k < l.length),
  w.cell? ⟨g,o + k * 5,none⟩=some (.string (st l[k].id))∧w.cell? ⟨g,o + k * 5 + 1,none⟩=some (.string (st l[k].ti))∧w.cell? ⟨g,o + k * 5 + 2,none⟩=some (.string (st l[k].li))∧w.cell? ⟨g,o + k * 5 + 3,none⟩=some (.int .i64 l[k].at_)∧w.cell? ⟨g,o + k * 5 + 4,none⟩=some (.string (st l[k].ht)):=by
 obtain⟨ao,cap,h1,h2,_⟩:=h
 rcases h2 with h2 | ⟨g,o,h3,h4,h5⟩
 ·have:l=[]:=List.eq_nil_of_length_eq_zero (by have:=Y9 l;rw[h2] at this;simp at this;omega)
  subst this;exact⟨0,0,cap,fun h=>absurd rfl h,.inr ⟨ao,h1,rfl⟩,fun k hk=>absurd hk (Nat.not_lt_zero _)⟩
 ·refine⟨g,o,cap,fun _=>h4,.inl (by rw[h1,h3]),fun k hk=>?_⟩
  obtain⟨e1,e2,e3,e4,e5⟩:=z9q l k hk;exact⟨h5 _ _ e1,by rw[Nat.add_assoc];exact h5 _ _ e2,by rw[Nat.add_assoc];exact h5 _ _ e3,by rw[Nat.add_assoc];exact h5 _ _ e4,by rw[Nat.add_assoc];exact h5 _ _ e5⟩
end Go.Proofs.YtjonkbdldebkiaaGreatDoor
