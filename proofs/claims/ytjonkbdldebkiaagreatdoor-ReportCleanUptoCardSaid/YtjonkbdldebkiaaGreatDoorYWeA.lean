/- Contracts of the program's Stays (is markup clean, and as it is printed) and of feed.Check. No condition. -/
import Derived.Test.YtjonkbdldebkiaaGreatDoorYMkStay3
import Derived.Test.YtjonkbdldebkiaaGreatDoorYMkHtml
import Derived.Test.YtjonkbdldebkiaaGreatDoorYWdB
import Derived.Test.YtjonkbdldebkiaaGreatDoorYMkRep6
import Derived.Test.YtjonkbdldebkiaaGreatDoorYMkStay4
import Derived.Test.YtjonkbdldebkiaaGreatDoorYMkTree1
import Derived.Test.YtjonkbdldebkiaaGreatDoorYWtPlain
set_option linter.unusedVariables false
set_option linter.unusedSimpArgs false
namespace Go.Proofs.YtjonkbdldebkiaaGreatDoor
open Go.RowKit
theorem ntells (s : List UInt8) (hs : s.length≤3000) : ∀ t ∈ Mk.flat (Mk.build (Mk.toks s)),TokTells t:=by
 intro t ht
 have h1:=Mk.toks_bulk s
 have h2:=Mk.build_bulk (Mk.toks s)
 obtain ⟨h4,h5⟩:=Mk.flat_mem _ t ht
 exact ⟨fun _=>tells_any _ (by omega),fun a ha=>tells_any _ (by have:=h5 a ha;omega)⟩
set_option maxHeartbeats 4000000 in
set_option maxRecDepth 100000 in
theorem cl_StaysW (s : List UInt8) (w : World) (hg : Gl w) :
  Calls Tryz.prog 63 #[.string (st s)] w fun e w'=>e = .returned (.bool (Fd.staysB s))∧Below w.heap.size w w':=by
 have hst : ∀ l : List UInt8,(st l).toList = l:=fun l=>Lib.toList_data _
 have HS : Hid (Fd.staysB s = (decide (s.length≤3000) && (Mk.safeF (Mk.build (Mk.toks s)) && (Mk.bytes (Mk.flat (Mk.build (Mk.toks s))) == s)))):=rfl
 by_cases h1 : s.length≤3000
 ·have h2 : ¬ 3000 < (st s).size:=by rw [st_size];omega
  have HE : Hid (Fd.staysB s = (Mk.safeF (Mk.build (Mk.toks s)) && (Mk.bytes (Mk.flat (Mk.build (Mk.toks s))) == s))):=by show _ = _;rw [HS.out,decide_eq_true h1,Bool.true_and]
  have HA:=Lib.hid (mk_All (st s) w hg (by rw [st_size];omega))
  have hb1:=Mk.toks_bulk s
  have hb2:=Mk.build_bulk (Mk.toks s)
  have hb3:=Mk.bytes_bulk (Mk.build (Mk.toks s))
  have HT:=Lib.hid (ntells s h1)
  have HB : Hid (Mk.Bld.tokB (Mk.toks s)≤549755813000∧(Mk.build (Mk.toks s)).bulk≤1048576∧(Mk.bytes (Mk.flat (Mk.build (Mk.toks s)))).length≤1099511627776):=⟨by omega,by omega,by omega⟩
  clear HS h1 hb1 hb2 hb3
  go_enter Tryz.func63,Tryz.ntmps63
  go_wp2_with fail
  refine HA.out.mono ?_
  rintro e w1 ⟨v1,rfl,hv1,hb1⟩
  have B1:=Lib.hid hb1
  have HO:=Lib.hid (tr_Of (Mk.toks s) v1 _ w1 hv1 (fun b q=>q.2) HB.out.1)
  clear hv1 hb1 HA
  go_wp2_with fail
  refine HO.out.mono ?_
  rintro e w2 ⟨v2,rfl,hv2,hb2⟩
  have B2:=Lib.hid (B1.out.trans (hb2.mono B1.out.size))
  have HV2:=Lib.hid hv2
  have HF:=Lib.hid (cl_safe ((Mk.build (Mk.toks s)).bulk + 1) (Mk.build (Mk.toks s)) (Nat.lt_succ_self _) (Nat.le_trans HB.out.2.1 (by decide)) v2 _ w2 hv2 (fun b q=>q.2))
  clear hv2 hb2 HO B1
  go_wp2_with fail
  refine HF.out.mono ?_
  rintro e w3 ⟨rfl,hb3⟩
  have B3:=Lib.hid (B2.out.trans (hb3.mono B2.out.size))
  have HV3 : Hid (FoV w3 (fun x=>w1.heap.size≤x∧x < w2.heap.size) v2 (Mk.build (Mk.toks s))):=HV2.out.frame (fun b q=>⟨q,hb3.block b q.2⟩)
  have h23:=hb3.size
  clear hb3 HF HV2 B2
  obtain ⟨b,hb⟩ : ∃ b,Mk.safeF (Mk.build (Mk.toks s)) = b:=⟨_,rfl⟩
  rw [hb] at HE ⊢
  clear hb
  cases b with
  | false =>
   go_wp2_with fail
   go_ret
   exact ⟨ret_bool (by rw [HE.out];rfl),B3.out⟩
  | true =>
   have HK:=Lib.hid (tr_Tokens ((Mk.build (Mk.toks s)).bulk + 1) (Mk.build (Mk.toks s)) (Nat.lt_succ_self _) (Nat.le_trans HB.out.2.1 (by decide)) v2 _ w3 HV3.out (fun b q=>Nat.lt_of_lt_of_le q.2 h23))
   go_wp2_with fail
   refine HK.out.mono ?_
   rintro e w4 ⟨v4,xs4,rfl,hv4,_,hb4⟩
   have B4:=Lib.hid (B3.out.trans (hb4.mono B3.out.size))
   have HBY:=Lib.hid (tk_Bytes (Mk.flat (Mk.build (Mk.toks s))) v4 _ w4 hv4.toksV (fun b q=>q.2) HT.out HB.out.2.2)
   clear hv4 hb4 HK B3 HV3
   go_wp2_with fail
   refine HBY.out.mono ?_
   rintro e w5 ⟨rfl,hb5⟩
   have B5:=Lib.hid (B4.out.trans (hb5.mono B4.out.size))
   clear hb5 HBY B4 HB HT
   generalize Mk.bytes (Mk.flat (Mk.build (Mk.toks s))) = y at HE ⊢
   go_wp2_with fail
   go_ret
   exact ⟨ret_bool (by rw [HE.out];simp [hst]),B5.out⟩
 ·have h2 : 3000 < (st s).size:=by rw [st_size];omega
  have HE : Hid (Fd.staysB s = false):=by show _ = _;rw [HS.out,decide_eq_false h1,Bool.false_and]
  clear HS h1
  go_enter Tryz.func63,Tryz.ntmps63
  go_wp2_with fail
  go_ret
  exact ⟨ret_bool HE.out.symm,Below.refl _ _⟩
theorem fd_long (s : List UInt8) (w : World) :
  Calls Tryz.prog 61 #[.string (st s)] w fun e w'=>e = .returned (.bool (decide (3000 < s.length)))∧w' = w:=by
 by_cases h : 3000 < s.length
 ·have h2 : 3000 < (st s).size:=by rw [st_size];omega
  rw [decide_eq_true h]
  clear h
  go_enter Tryz.func61,Tryz.ntmps61
  go_wp2_with fail
  go_ret
  exact ⟨ret_bool (decide_eq_true (by omega)),rfl⟩
 ·have h2 : ¬ 3000 < (st s).size:=by rw [st_size];omega
  rw [decide_eq_false h]
  clear h
  go_enter Tryz.func61,Tryz.ntmps61
  go_wp2_with fail
  go_ret
  exact ⟨ret_bool (decide_eq_false (by omega)),rfl⟩
theorem empty_or (n : List UInt8) : (n = []∧n.isEmpty = true) ∨ (n ≠ []∧n.isEmpty = false):=by
 cases n with
 | nil=>exact .inl ⟨rfl,rfl⟩
 | cons _ _=>exact .inr ⟨by simp,rfl⟩
set_option maxHeartbeats 8000000 in
set_option maxRecDepth 100000 in
theorem fd_Check (x : Fd.En) (w : World) (hg : Gl w) :
  Calls Tryz.prog 23 #[.agg #[.string (st x.id),.string (st x.ti),.string (st x.li),.int .i64 x.at_,.string (st x.ht)]] w fun e w'=>e = .returned (.int .i64 (Fd.checkEn x))∧Below w.heap.size w w':=by
 have hst : ∀ l : List UInt8,(st l).toList = l:=fun l=>Lib.toList_data _
 have HC : Hid (Fd.checkEn x = if x.id = [] then 1 else if 60 < x.id.length ∨ 3000 < x.ti.length ∨ 3000 < x.li.length ∨ 3000 < x.ht.length then 2 else if x.at_ < 0 ∨ 4102444799 < x.at_ then 3 else if (x.li ≠ []∧Mg.isSafe x.li = false) ∨ Fd.staysB x.ht = false then 4 else 0):=rfl
 generalize Fd.checkEn x = c at HC ⊢
 obtain ⟨id,ti,li,at_,ht⟩:=x
 simp only at HC ⊢
 have hal:=(Below.refl w.heap.size w).alloc (Nat.le_refl _) (.cells #[.string (st id),.string (st ti),.string (st li),.int .i64 at_,.string (st ht)] 44)
 have HAL:=Lib.hid hal
 have PB:=Lib.hid (Blk.new w 44 #[.string (st id),.string (st ti),.string (st li),.int .i64 at_,.string (st ht)])
 have HG:=Lib.hid (hg.alloc (.cells #[.string (st id),.string (st ti),.string (st li),.int .i64 at_,.string (st ht)] 44))
 have hI : Mg.isSafe li = Mg.isSafe (st li).data.toList:=rfl
 have HLT:=Lib.hid (fun W=>fd_long ti W)
 have HLL:=Lib.hid (fun W=>fd_long li W)
 have HLH:=Lib.hid (fun W=>fd_long ht W)
 have his : (st id).size = id.length:=st_size id
 have HIS:=Lib.hid his
 have HLI : Hid (li.length≤3000→∀ W,Calls Tryz.prog 62 #[.string (st li)] W fun e w'=>e = .returned (.bool (Mg.isSafe li))∧Below W.heap.size W w'):=fun h W=>url_Is (st li) W (by rw [st_size];omega)
 have HST:=Lib.hid (fun W (hW : Gl W)=>cl_StaysW ht W hW)
 clear hal hI his hg
 rcases empty_or id with ⟨e1,q1⟩ | ⟨e1,q1⟩
 ·have HE : Hid (c = 1):=by show _ = _;rw [HC.out,if_pos e1]
  clear e1
  clear HC
  go_enter Tryz.func23,Tryz.ntmps23
  go_wp2_with (first | (go_at_call 61;refine (HLT.out _).mono ?_;rintro e wx ⟨rfl,hwx⟩;subst wx) | (go_at_call 61;refine (HLL.out _).mono ?_;rintro e wx ⟨rfl,hwx⟩;subst wx) | (go_at_call 61;refine (HLH.out _).mono ?_;rintro e wx ⟨rfl,hwx⟩;subst wx))
  go_ret
  exact ⟨ret_int (by rw [HE.out]),HAL.out⟩
 rw [if_neg e1] at HC
 clear e1
 by_cases q2 : 60 < id.length
 ·have HE : Hid (c = 2):=by show _ = _;rw [HC.out,if_pos (.inl q2)]
  have s2 : 60 < (st id).size:=by rw [st_size];exact q2
  clear q2
  clear HC
  go_enter Tryz.func23,Tryz.ntmps23
  go_wp2_with (first | (go_at_call 61;refine (HLT.out _).mono ?_;rintro e wx ⟨rfl,hwx⟩;subst wx) | (go_at_call 61;refine (HLL.out _).mono ?_;rintro e wx ⟨rfl,hwx⟩;subst wx) | (go_at_call 61;refine (HLH.out _).mono ?_;rintro e wx ⟨rfl,hwx⟩;subst wx))
  go_ret
  exact ⟨ret_int (by rw [HE.out]),HAL.out⟩
 have s2 : ¬ 60 < (st id).size:=by rw [st_size];exact q2
 by_cases q3 : 3000 < ti.length
 ·have HE : Hid (c = 2):=by show _ = _;rw [HC.out,if_pos (.inr (.inl q3))]
  rw [decide_eq_true q3] at HLT
  clear q2 q3
  clear HC
  go_enter Tryz.func23,Tryz.ntmps23
  go_wp2_with (first | (go_at_call 61;refine (HLT.out _).mono ?_;rintro e wx ⟨rfl,hwx⟩;subst wx) | (go_at_call 61;refine (HLL.out _).mono ?_;rintro e wx ⟨rfl,hwx⟩;subst wx) | (go_at_call 61;refine (HLH.out _).mono ?_;rintro e wx ⟨rfl,hwx⟩;subst wx))
  go_ret
  exact ⟨ret_int (by rw [HE.out]),HAL.out⟩
 rw [decide_eq_false q3] at HLT
 by_cases q4 : 3000 < li.length
 ·have HE : Hid (c = 2):=by show _ = _;rw [HC.out,if_pos (.inr (.inr (.inl q4)))]
  rw [decide_eq_true q4] at HLL
  clear q2 q3 q4
  clear HC
  go_enter Tryz.func23,Tryz.ntmps23
  go_wp2_with (first | (go_at_call 61;refine (HLT.out _).mono ?_;rintro e wx ⟨rfl,hwx⟩;subst wx) | (go_at_call 61;refine (HLL.out _).mono ?_;rintro e wx ⟨rfl,hwx⟩;subst wx) | (go_at_call 61;refine (HLH.out _).mono ?_;rintro e wx ⟨rfl,hwx⟩;subst wx))
  go_ret
  exact ⟨ret_int (by rw [HE.out]),HAL.out⟩
 rw [decide_eq_false q4] at HLL
 by_cases q5 : 3000 < ht.length
 ·have HE : Hid (c = 2):=by show _ = _;rw [HC.out,if_pos (.inr (.inr (.inr q5)))]
  rw [decide_eq_true q5] at HLH
  clear q2 q3 q4 q5
  clear HC
  go_enter Tryz.func23,Tryz.ntmps23
  go_wp2_with (first | (go_at_call 61;refine (HLT.out _).mono ?_;rintro e wx ⟨rfl,hwx⟩;subst wx) | (go_at_call 61;refine (HLL.out _).mono ?_;rintro e wx ⟨rfl,hwx⟩;subst wx) | (go_at_call 61;refine (HLH.out _).mono ?_;rintro e wx ⟨rfl,hwx⟩;subst wx))
  go_ret
  exact ⟨ret_int (by rw [HE.out]),HAL.out⟩
 rw [decide_eq_false q5] at HLH
 rw [if_neg (by rintro (q | q | q | q) <;> omega)] at HC
 by_cases q6 : at_ < 0
 ·have HE : Hid (c = 3):=by show _ = _;rw [HC.out,if_pos (.inl q6)]
  clear q2 q3 q4 q5
  clear HC
  go_enter Tryz.func23,Tryz.ntmps23
  go_wp2_with (first | (go_at_call 61;refine (HLT.out _).mono ?_;rintro e wx ⟨rfl,hwx⟩;subst wx) | (go_at_call 61;refine (HLL.out _).mono ?_;rintro e wx ⟨rfl,hwx⟩;subst wx) | (go_at_call 61;refine (HLH.out _).mono ?_;rintro e wx ⟨rfl,hwx⟩;subst wx))
  go_ret
  exact ⟨ret_int (by rw [HE.out]),HAL.out⟩
 by_cases q7 : 4102444799 < at_
 ·have HE : Hid (c = 3):=by show _ = _;rw [HC.out,if_pos (.inr q7)]
  clear q2 q3 q4 q5
  clear HC
  go_enter Tryz.func23,Tryz.ntmps23
  go_wp2_with (first | (go_at_call 61;refine (HLT.out _).mono ?_;rintro e wx ⟨rfl,hwx⟩;subst wx) | (go_at_call 61;refine (HLL.out _).mono ?_;rintro e wx ⟨rfl,hwx⟩;subst wx) | (go_at_call 61;refine (HLH.out _).mono ?_;rintro e wx ⟨rfl,hwx⟩;subst wx))
  go_ret
  exact ⟨ret_int (by rw [HE.out]),HAL.out⟩
 rw [if_neg (by rintro (q | q) <;> omega)] at HC
 have HLJ:=Lib.hid (HLI.out (by omega))
 clear q2 q3 q4 q5 HLI
 obtain ⟨bs,hbs⟩ : ∃ b,Fd.staysB ht = b:=⟨_,rfl⟩
 rw [hbs] at HST HC
 clear hbs
 rcases empty_or li with ⟨e8,q8⟩ | ⟨e8,q8⟩
 ·have HE : Hid (c = if bs = false then 4 else 0):=by
   show _ = _
   rw [HC.out]
   cases bs with
   | false=>rw [if_pos (.inr rfl),if_pos rfl]
   | true=>rw [if_neg (by rintro (q | q);exact q.1 e8;cases q),if_neg (by decide)]
  clear e8 HC HLJ
  go_enter Tryz.func23,Tryz.ntmps23
  go_wp2_with (first | (go_at_call 61;refine (HLT.out _).mono ?_;rintro e wx ⟨rfl,hwx⟩;subst wx) | (go_at_call 61;refine (HLL.out _).mono ?_;rintro e wx ⟨rfl,hwx⟩;subst wx) | (go_at_call 61;refine (HLH.out _).mono ?_;rintro e wx ⟨rfl,hwx⟩;subst wx))
  refine (HST.out _ HG.out).mono ?_
  rintro e w1 ⟨rfl,hb1⟩
  have B1:=Lib.hid (HAL.out.trans (hb1.mono HAL.out.size))
  clear hb1
  cases bs with
  | false =>
   go_wp2_with fail
   go_ret
   exact ⟨ret_int (by rw [HE.out];rfl),B1.out⟩
  | true =>
   go_wp2_with fail
   go_ret
   exact ⟨ret_int (by rw [HE.out];rfl),B1.out⟩
 ·obtain ⟨bi,hbi⟩ : ∃ b,Mg.isSafe li = b:=⟨_,rfl⟩
  rw [hbi] at HLJ HC
  clear hbi
  cases bi with
  | false =>
   have HE : Hid (c = 4):=by show _ = _;rw [HC.out,if_pos (.inl ⟨e8,rfl⟩)]
   clear e8 HC
   go_enter Tryz.func23,Tryz.ntmps23
   go_wp2_with (first | (go_at_call 61;refine (HLT.out _).mono ?_;rintro e wx ⟨rfl,hwx⟩;subst wx) | (go_at_call 61;refine (HLL.out _).mono ?_;rintro e wx ⟨rfl,hwx⟩;subst wx) | (go_at_call 61;refine (HLH.out _).mono ?_;rintro e wx ⟨rfl,hwx⟩;subst wx))
   refine (HLJ.out _).mono ?_
   rintro e w1 ⟨rfl,hb1⟩
   have B1:=Lib.hid (HAL.out.trans (hb1.mono HAL.out.size))
   clear hb1
   go_wp2_with fail
   go_ret
   exact ⟨ret_int (by rw [HE.out]),B1.out⟩
  | true =>
   have HE : Hid (c = if bs = false then 4 else 0):=by
    show _ = _
    rw [HC.out]
    cases bs with
    | false=>rw [if_pos (.inr rfl),if_pos rfl]
    | true=>rw [if_neg (by rintro (q | q);cases q.2;cases q),if_neg (by decide)]
   clear e8 HC
   go_enter Tryz.func23,Tryz.ntmps23
   go_wp2_with (first | (go_at_call 61;refine (HLT.out _).mono ?_;rintro e wx ⟨rfl,hwx⟩;subst wx) | (go_at_call 61;refine (HLL.out _).mono ?_;rintro e wx ⟨rfl,hwx⟩;subst wx) | (go_at_call 61;refine (HLH.out _).mono ?_;rintro e wx ⟨rfl,hwx⟩;subst wx))
   refine (HLJ.out _).mono ?_
   rintro e w1 ⟨rfl,hb1⟩
   have B1:=Lib.hid (HAL.out.trans (hb1.mono HAL.out.size))
   have p4 : w1.cell? ⟨w.heap.size,4,none⟩ = some (.string (st ht)):=Blk.cell (Blk.below PB.out hb1 (Blk.lt PB.out)) 4
   have HG1:=Lib.hid (HG.out.below hb1 HG.out.lt)
   clear hb1
   go_wp2_with fail
   refine (HST.out _ HG1.out).mono ?_
   rintro e w2 ⟨rfl,hb2⟩
   have B2:=Lib.hid (B1.out.trans (hb2.mono B1.out.size))
   clear hb2
   cases bs with
   | false =>
    go_wp2_with fail
    go_ret
    exact ⟨ret_int (by rw [HE.out];rfl),B2.out⟩
   | true =>
    go_wp2_with fail
    go_ret
    exact ⟨ret_int (by rw [HE.out];rfl),B2.out⟩
end Go.Proofs.YtjonkbdldebkiaaGreatDoor

/- How entries and shelves lie in memory, over sets of blocks that stay as they are. No program in sight but its types. -/
namespace Go.Proofs.YtjonkbdldebkiaaGreatDoor
open Go.RowKit
def enV (x : Fd.En) : List Value:=[.string (st x.id),.string (st x.ti),.string (st x.li),.int .i64 x.at_,.string (st x.ht)]
def entCells (l : List Fd.En) : List Value:=l.flatMap enV
/-- entries. -/
def EntsV (w : World) (K : Nat→Prop) (v : Value) (l : List Fd.En) : Prop:=∃ ao cap,v = .slice ao l.length cap∧RowAt w K ao (entCells l)∧l.length≤cap∧l.length≤maxLen
theorem EntsV.frame {w w' : World} {K K' : Nat→Prop} {v : Value} {l : List Fd.En} (h : EntsV w K v l) (hk : ∀ b,K b→K' b∧w'.heap[b]? = w.heap[b]?) : EntsV w' K' v l:=by
 obtain ⟨ao,cap,h1,h2,h3⟩:=h
 exact ⟨ao,cap,h1,h2.frame hk,h3⟩
theorem EntsV.below {w w' : World} {K : Nat→Prop} {v : Value} {l : List Fd.En} {B : Nat} (h : EntsV w K v l) (hK : ∀ b,K b→b < B) (hb : Below B w w') : EntsV w' K v l:=h.frame fun b q=>⟨q,hb.block b (hK b q)⟩
theorem EntsV.nil (w : World) (K : Nat→Prop) : EntsV w K (.slice none 0 0) []:=⟨none,0,rfl,.inl rfl,Nat.le_refl _,Nat.zero_le _⟩
theorem entCells_len (l : List Fd.En) : (entCells l).length = l.length * 5:=by
 induction l with
 | nil=>rfl
 | cons a t ih=>rw [show entCells (a :: t) = enV a++entCells t from rfl,List.length_append,ih,List.length_cons];simp [enV];omega
theorem entCells_get (l : List Fd.En) (k : Nat) (h : k < l.length) : (entCells l)[k * 5]? = some (.string (st l[k].id))∧(entCells l)[k * 5 + 1]? = some (.string (st l[k].ti))∧(entCells l)[k * 5 + 2]? = some (.string (st l[k].li))∧(entCells l)[k * 5 + 3]? = some (.int .i64 l[k].at_)∧(entCells l)[k * 5 + 4]? = some (.string (st l[k].ht)):=by
 induction l generalizing k with
 | nil=>simp at h
 | cons a t ih =>
  cases k with
  | zero=>exact ⟨rfl,rfl,rfl,rfl,rfl⟩
  | succ k =>
   have h' : k < t.length:=by simpa using h
   have e : entCells (a :: t) = enV a++entCells t:=rfl
   have e5 : (enV a).length = 5:=rfl
   rw [e,show (k + 1) * 5 = k * 5 + 5 by omega]
   obtain ⟨h1,h2,h3,h4,h5⟩:=ih k h'
   refine ⟨?_,?_,?_,?_,?_⟩
   ·rw [List.getElem?_append_right (by omega),e5];simpa using h1
   ·rw [List.getElem?_append_right (by omega),e5,show k * 5 + 5 + 1 - 5 = k * 5 + 1 by omega];simpa using h2
   ·rw [List.getElem?_append_right (by omega),e5,show k * 5 + 5 + 2 - 5 = k * 5 + 2 by omega];simpa using h3
   ·rw [List.getElem?_append_right (by omega),e5,show k * 5 + 5 + 3 - 5 = k * 5 + 3 by omega];simpa using h4
   ·rw [List.getElem?_append_right (by omega),e5,show k * 5 + 5 + 4 - 5 = k * 5 + 4 by omega];simpa using h5
/-- where an entry lies. -/
theorem EntsV.at_ {w : World} {K : Nat→Prop} {v : Value} {l : List Fd.En} (h : EntsV w K v l) : ∃ g o cap,(l ≠ []→K g)∧(v = .slice (some ⟨g,o,none⟩) l.length cap ∨ ∃ ao,v = .slice ao 0 cap∧l = [])∧∀ k (hk : k < l.length),
  w.cell? ⟨g,o + k * 5,none⟩ = some (.string (st l[k].id))∧w.cell? ⟨g,o + k * 5 + 1,none⟩ = some (.string (st l[k].ti))∧w.cell? ⟨g,o + k * 5 + 2,none⟩ = some (.string (st l[k].li))∧w.cell? ⟨g,o + k * 5 + 3,none⟩ = some (.int .i64 l[k].at_)∧w.cell? ⟨g,o + k * 5 + 4,none⟩ = some (.string (st l[k].ht)):=by
 obtain ⟨ao,cap,h1,h2,_⟩:=h
 rcases h2 with h2 | ⟨g,o,h3,h4,h5⟩
 ·have : l = []:=List.eq_nil_of_length_eq_zero (by have:=entCells_len l;rw [h2] at this;simp at this;omega)
  subst this
  exact ⟨0,0,cap,fun h=>absurd rfl h,.inr ⟨ao,h1,rfl⟩,fun k hk=>absurd hk (Nat.not_lt_zero _)⟩
 ·refine ⟨g,o,cap,fun _=>h4,.inl (by rw [h1,h3]),fun k hk=>?_⟩
  obtain ⟨e1,e2,e3,e4,e5⟩:=entCells_get l k hk
  exact ⟨h5 _ _ e1,by rw [Nat.add_assoc];exact h5 _ _ e2,by rw [Nat.add_assoc];exact h5 _ _ e3,by rw [Nat.add_assoc];exact h5 _ _ e4,by rw [Nat.add_assoc];exact h5 _ _ e5⟩
end Go.Proofs.YtjonkbdldebkiaaGreatDoor

/- Contracts of the report writer's methods put and line: an entry's line. Conditions: the entry is right; at most 1099511627776 letters in all. -/
namespace Go.Proofs.YtjonkbdldebkiaaGreatDoor
open Go.RowKit
theorem bd_writer : Bd 98:=⟨by kernel_rfl,by decide⟩
set_option maxHeartbeats 4000000 in
set_option maxRecDepth 100000 in
theorem wr_put (xs : List (List UInt8)) (X N b : Nat) (l : List UInt8) (w : World) (hX : Blk w X 9 (strVs xs).toArray) (hXb : X ≠ b) (hN : N≤w.heap.size) (hB : BdI 98 N b (Lib.byteCells l) w) (hx0 : xs.length≤100) (hl : l.length + xs.flatten.length≤1099511627776) :
  Calls Tryz.prog 49 #[.pointer (some ⟨b,0,none⟩),.slice (some ⟨X,0,none⟩) xs.length xs.length] w fun e w'=>e = .returned (.tuple #[])∧BdI 98 N b (Lib.byteCells (l++xs.flatten)) w'∧Bes N b w w':=by
 have HX:=Lib.hid hX
 have HB:=Lib.hid hB
 clear hX hB
 go_enter Tryz.func49,Tryz.ntmps49
 go_wp2_with fail
 go_loopw [8] (fun i wr=>∃ k : Nat,k≤xs.length∧i = .int .i64 k∧Hid (BdI 98 N b (Lib.byteCells (l++(xs.take k).flatten)) wr)∧Hid (Bes N b w wr)) (fun i _=>xs.length - (intOf i).toNat)
 case atStart=>exact ⟨0,Nat.zero_le _,rfl,by show BdI _ _ _ _ _;rw [List.take_zero,List.flatten_nil,List.append_nil];exact HB.out,Bes.refl _ _ _⟩
 case round =>
  obtain ⟨k,hk,rfl,BD,BS⟩:=hrel
  have hNr:=Nat.le_trans hN BS.out.size
  by_cases hlt : k < xs.length
  ·have c0 : wr.cell? ⟨X,0 + k,none⟩ = some (.string (st xs[k])):=by
    rw [Nat.zero_add,Blk.cell (BS.out.blk HX.out hXb (by decide)) k]
    simp [strVs,List.getElem?_map,List.getElem?_eq_getElem hlt]
   have HT : Hid ((xs.take (k + 1)).flatten = (xs.take k).flatten++xs[k]):=by show _ = _;rw [List.take_succ_eq_append_getElem hlt,List.flatten_append];simp
   have hle : ((xs.take (k + 1)).flatten).length≤xs.flatten.length:=by
    have h : xs.flatten = (xs.take (k + 1)).flatten++(xs.drop (k + 1)).flatten:=by rw [← List.flatten_append,List.take_append_drop]
    rw [h,List.length_append];omega
   rw [HT.out,List.length_append] at hle
   have c0 : wr.cell? ⟨X,k,none⟩ = some (.string (st xs[k])):=by rw [Nat.zero_add] at c0;exact c0
   obtain ⟨s,hs⟩ : ∃ s,xs[k] = s:=⟨_,rfl⟩
   rw [hs] at c0 HT hle
   have HW:=Lib.hid (wb_WriteString 98 bd_writer N b _ (st s) wr BD.out (by rw [Lib.byteCells_length,st_size,List.length_append];omega) hNr)
   clear hs hle BD
   go_wp2_with fail
   refine HW.out.mono ?_
   rintro e w1 ⟨rfl,h1,h2⟩
   have BD1 : Hid (BdI 98 N b (Lib.byteCells (l++(xs.take (k + 1)).flatten)) w1):=by
    show BdI _ _ _ _ _
    rw [HT.out,← List.append_assoc,← byte_str]
    exact .inr h1
   have BS1:=Lib.hid (BS.out.trans h2)
   clear h1 h2 HW
   go_wp2_with fail
   go_roundw
   case rel=>exact ⟨k + 1,by omega,by go_num,BD1,BS1⟩
   case measure=>simp [intOf];omega
  ·have hke : k = xs.length:=by omega
   have HE : Hid (l++(xs.take k).flatten = l++xs.flatten):=by show _ = _;rw [hke,List.take_length]
   clear hke
   go_wp2_with fail
   go_end0
   exact ⟨rfl,by rw [← HE.out];exact BD.out,BS.out⟩
theorem line_eq (x : Fd.En) : Fd.lineE Fd.toldP x = [60,108,105,62]++((if x.li = [] then Mk.put x.ti else [60,97,32,104,114,101,102,61,34]++Mk.put x.li++[34,62]++Mk.put x.ti++[60,47,97,62])++((if x.at_ = 0 then [] else [32]++Fd.dateB x.at_)++([60,112,62]++Mk.put (Fd.toldP x.ht)++[60,47,112,62]++[60,47,108,105,62]))):=rfl
theorem en_right {x : Fd.En} (h : Fd.checkEn x = 0) : x.ti.length≤3000∧x.li.length≤3000∧x.ht.length≤3000∧0≤x.at_∧x.at_≤4102444799:=by
 unfold Fd.checkEn at h
 by_cases q1 : x.id = []
 ·rw [if_pos q1] at h;cases h
 rw [if_neg q1] at h
 by_cases q2 : 60 < x.id.length ∨ 3000 < x.ti.length ∨ 3000 < x.li.length ∨ 3000 < x.ht.length
 ·rw [if_pos q2] at h;cases h
 rw [if_neg q2] at h
 by_cases q3 : x.at_ < 0 ∨ 4102444799 < x.at_
 ·rw [if_pos q3] at h;cases h
 omega
/-- a call of put, in a walk. -/
theorem wr_put_new (xs : List (List UInt8)) (N b : Nat) (l : List UInt8) (w : World) (hb : b < w.heap.size) (hN : N≤w.heap.size) (hB : BdI 98 N b (Lib.byteCells l) w) (hx0 : xs.length≤100) (hl : l.length + xs.flatten.length≤1099511627776) :
  Calls Tryz.prog 49 #[.pointer (some ⟨b,0,none⟩),.slice (some ⟨w.heap.size,0,none⟩) xs.length xs.length] (w.alloc (.cells (strVs xs).toArray 9)) fun e w'=>e = .returned (.tuple #[])∧BdI 98 N b (Lib.byteCells (l++xs.flatten)) w'∧Bes N b w w':=by
 have hal:=(Below.refl w.heap.size w).alloc (Nat.le_refl _) (.cells (strVs xs).toArray 9)
 refine (wr_put xs w.heap.size N b l _ (Blk.new _ _ _) (by omega) (Nat.le_trans hN hal.size) (hB.below hal) hx0 hl).mono ?_
 rintro e w' ⟨h1,h2,h3⟩
 exact ⟨h1,h2,(Bes.of hal hN).trans h3⟩
set_option maxHeartbeats 16000000 in
set_option maxRecDepth 100000 in
theorem wr_line (x : Fd.En) (hx : Fd.checkEn x = 0) (N b B0 : Nat) (l : List UInt8) (w : World) (hB0 : B0≤b) (hB0N : B0≤N) (hS : ∀ W,Below B0 w W→Gl W∧Pow W) (hN : N≤w.heap.size) (hB : BdI 98 N b (Lib.byteCells l) w) (hl : l.length≤1000000000000) :
  Calls Tryz.prog 50 #[.pointer (some ⟨b,0,none⟩),.agg #[.string (st x.id),.string (st x.ti),.string (st x.li),.int .i64 x.at_,.string (st x.ht)]] w fun e w'=>e = .returned (.tuple #[])∧BdI 98 N b (Lib.byteCells (l++Fd.lineE Fd.toldP x)) w'∧Bes N b w w':=by
 have hst : ∀ l : List UInt8,(st l).toList = l:=fun l=>Lib.toList_data _
 obtain ⟨h1,h2,h3,h4,h5⟩:=en_right hx
 have HLE:=Lib.hid (line_eq x)
 have hp1:=Mk.put_len6 x.ti
 have hp2:=Mk.put_len6 x.li
 have hp3:=Mk.put_len6 (Fd.toldP x.ht)
 have hp4:=(Fd.told_len x.ht h3).2
 have hp5:=Fd.date_len x.at_
 have HP5 : Hid ((Fd.dateB x.at_).length≤20):=by show _≤_;omega
 have HT1:=Lib.hid (tells_any x.ti (by omega))
 have HT2:=Lib.hid (tells_any x.li (by omega))
 have HT3:=Lib.hid (tells_any (Fd.toldP x.ht) (by omega))
 have HFT:=Lib.hid (fun W (hW : Gl W)=>fi_Told x.ht W hW h3)
 have HDP:=Lib.hid (fun W (hW : Pow W)=>dt_Print x.at_ h4 h5 W hW)
 have q1 : (Mk.put x.ti).length≤18000:=by omega
 have q2 : (Mk.put x.li).length≤18000:=by omega
 have q3 : (Mk.put (Fd.toldP x.ht)).length≤25165830:=by omega
 have hbl:=hB.lt
 have hal:=(Below.refl w.heap.size w).alloc (Nat.le_refl _) (.cells #[.string (st x.id),.string (st x.ti),.string (st x.li),.int .i64 x.at_,.string (st x.ht)] 44)
 have QB:=Lib.hid (Blk.new w 44 #[.string (st x.id),.string (st x.ti),.string (st x.li),.int .i64 x.at_,.string (st x.ht)])
 have BD1:=Lib.hid (hB.below hal)
 have BS1 : Hid (Bes N b w (w.alloc (.cells #[.string (st x.id),.string (st x.ti),.string (st x.li),.int .i64 x.at_,.string (st x.ht)] 44))):=Bes.of hal hN
 have HS:=Lib.hid hS
 have hQb : w.heap.size ≠ b:=by omega
 have HH : Hid (B0≤b∧B0≤N):=⟨hB0,hB0N⟩
 clear hp1 hp2 hp3 hp4 hp5 hB hal hS hx hB0 hB0N h4 h5
 generalize Fd.lineE Fd.toldP x = le at HLE ⊢
 go_enter Tryz.func50,Tryz.ntmps50
 go_upto_region 1 with fail
 generalize w.alloc (.cells #[.string (st x.id),.string (st x.ti),.string (st x.li),.int .i64 x.at_,.string (st x.ht)] 44) = w1 at QB BD1 BS1 ⊢
 generalize w.heap.size = Q at QB hQb ⊢
  -- <li>
 go_wp2_with fail
 refine (wr_put_new [[60,108,105,62]] N b l w1 BD1.out.lt (Nat.le_trans hN BS1.out.size) BD1.out (by simp) (by simp only [List.flatten_cons,List.flatten_nil,List.length_append,List.length_cons,List.length_nil];omega)).mono ?_
 rintro e w2 ⟨rfl,g1,g2⟩
 have BD2 : Hid (BdI 98 N b (Lib.byteCells (l++[60,108,105,62])) w2):=g1
 have BS2:=Lib.hid (BS1.out.trans g2)
 have QB2:=Lib.hid (g2.blk QB.out hQb (by decide))
 clear g1 g2 QB BD1 BS1
  -- the title
 have r1 : w2.cell? ⟨Q,1,none⟩ = some (.string (st x.ti)):=Blk.cell QB2.out 1
 go_wp2_with fail
 refine (HT1.out _).mono ?_
 rintro e w3 ⟨rfl,hb3⟩
 have BD3:=Lib.hid (BD2.out.below hb3)
 have BS3:=Lib.hid (BS2.out.trans (Bes.of hb3 (Nat.le_trans hN BS2.out.size)))
 have QB3:=Lib.hid (Blk.below QB2.out hb3 (Blk.lt QB2.out))
 clear hb3 BD2 BS2 QB2 r1 HT1
 have r2 : w3.cell? ⟨Q,2,none⟩ = some (.string (st x.li)):=Blk.cell QB3.out 2
 obtain ⟨l1,hl1⟩ : ∃ l1,l++[60,108,105,62] = l1:=⟨_,rfl⟩
 have hl1l : l1.length≤1000000000004:=by rw [← hl1,List.length_append];simp only [List.length_cons,List.length_nil];omega
 rw [hl1] at BD3
 have HL1:=Lib.hid hl1
 clear hl1
 obtain ⟨mid,hmid⟩ : ∃ m,m = if x.li = [] then Mk.put x.ti else [60,97,32,104,114,101,102,61,34]++Mk.put x.li++[34,62]++Mk.put x.ti++[60,47,97,62]:=⟨_,rfl⟩
 have hmidl : mid.length≤36100:=by
  rw [hmid]
  split
  ·omega
  ·simp only [List.length_append,List.length_cons,List.length_nil];omega
 rw [← hmid] at HLE
 have HMID:=Lib.hid hmid
 clear hmid
 go_upto_if 15 with fail
 go_cut [] (fun wx=>Hid (BdI 98 N b (Lib.byteCells (l1++mid)) wx)∧Hid (Bes N b w wx)∧Hid (Blk wx Q 44 #[.string (st x.id),.string (st x.ti),.string (st x.li),.int .i64 x.at_,.string (st x.ht)]))
 case first =>
  have R2:=Lib.hid r2
  rcases empty_or x.li with ⟨e1,e2⟩ | ⟨e1,e2⟩
  ·have HM : Hid (mid = [Mk.put x.ti].flatten):=by show _ = _;rw [HMID.out,if_pos e1];simp
   clear e1 HMID
   rw [e2]
   go_wp2_with fail
   refine (wr_put_new [Mk.put x.ti] N b l1 w3 BD3.out.lt (Nat.le_trans hN BS3.out.size) BD3.out (by simp) (by simp only [List.flatten_cons,List.flatten_nil,List.length_append,List.length_nil];omega)).mono ?_
   rintro e w4 ⟨rfl,g1,g2⟩
   have BD4 : Hid (BdI 98 N b (Lib.byteCells (l1++mid)) w4):=by rw [HM.out];exact g1
   have BS4:=Lib.hid (BS3.out.trans g2)
   have QB4:=Lib.hid (g2.blk QB3.out hQb (by decide))
   clear g1 g2
   go_wp2_with fail
   go_meet
   case rel=>exact ⟨BD4,BS4,QB4⟩
  ·have HM : Hid (mid = [[60,97,32,104,114,101,102,61,34],Mk.put x.li,[34,62],Mk.put x.ti,[60,47,97,62]].flatten):=by show _ = _;rw [HMID.out,if_neg e1];simp
   clear e1 HMID
   rw [e2]
   go_wp2_with fail
   refine (HT2.out _).mono ?_
   rintro e w4 ⟨rfl,hb4⟩
   have BD4:=Lib.hid (BD3.out.below hb4)
   have BS4:=Lib.hid (BS3.out.trans (Bes.of hb4 (Nat.le_trans hN BS3.out.size)))
   have QB4:=Lib.hid (Blk.below QB3.out hb4 (Blk.lt QB3.out))
   clear hb4 r2
   go_wp2_with fail
   refine (wr_put_new [[60,97,32,104,114,101,102,61,34],Mk.put x.li,[34,62],Mk.put x.ti,[60,47,97,62]] N b l1 w4 BD4.out.lt (Nat.le_trans hN BS4.out.size) BD4.out (by simp) (by simp only [List.flatten_cons,List.flatten_nil,List.length_append,List.length_cons,List.length_nil];omega)).mono ?_
   rintro e w5 ⟨rfl,g1,g2⟩
   have BD5 : Hid (BdI 98 N b (Lib.byteCells (l1++mid)) w5):=by rw [HM.out];exact g1
   have BS5:=Lib.hid (BS4.out.trans g2)
   have QB5:=Lib.hid (g2.blk QB4.out hQb (by decide))
   clear g1 g2
   go_wp2_with fail
   go_meet
   case rel=>exact ⟨BD5,BS5,QB5⟩
 case rest =>
 as_aux_lemma =>
 obtain ⟨BD4,BS4,QB4⟩:=hcut
 obtain ⟨w4,hw4⟩ : ∃ y,y = wc:=⟨_,rfl⟩
 subst hw4
 clear r2 HMID HT2 BD3 BS3 QB3
 have r3 : w4.cell? ⟨Q,3,none⟩ = some (.int .i64 x.at_):=Blk.cell QB4.out 3
 obtain ⟨l2,hl2⟩ : ∃ l2,l1++mid = l2:=⟨_,rfl⟩
 have hl2l : l2.length≤1000000036200:=by rw [← hl2,List.length_append];omega
 rw [hl2] at BD4
 have HL2:=Lib.hid hl2
 clear hl2
 obtain ⟨dt,hdt⟩ : ∃ m,m = if x.at_ = 0 then [] else [32]++Fd.dateB x.at_:=⟨_,rfl⟩
 have hdtl : dt.length≤21:=by
  rw [hdt]
  split
  ·simp
  ·have:=HP5.out
   simp only [List.length_append,List.length_cons,List.length_nil];omega
 rw [← hdt] at HLE
 have HDT:=Lib.hid hdt
 clear hdt
 go_upto_if 29 with fail
 go_cut [] (fun wx=>Hid (BdI 98 N b (Lib.byteCells (l2++dt)) wx)∧Hid (Bes N b w wx)∧Hid (Blk wx Q 44 #[.string (st x.id),.string (st x.ti),.string (st x.li),.int .i64 x.at_,.string (st x.ht)]))
 case first =>
  by_cases e1 : x.at_ = 0
  ·have HM : Hid (dt = []):=by show _ = _;rw [HDT.out,if_pos e1]
   have e2 : (x.at_ == 0) = true:=beq_iff_eq.2 e1
   clear e1 HDT
   try rw [e2]
   go_wp2_with fail
   go_meet
   case rel=>exact ⟨by rw [HM.out,List.append_nil];exact BD4,BS4,QB4⟩
  ·have HM : Hid (dt = [[32],Fd.dateB x.at_].flatten):=by show _ = _;rw [HDT.out,if_neg e1];simp
   have e2 : (x.at_ == 0) = false:=beq_eq_false_iff_ne.2 e1
   have HPW:=(HS.out w4 (BS4.out.below HH.out.1 HH.out.2)).2
   have HDQ:=Lib.hid (HDP.out w4 HPW)
   clear e1 HDT HPW
   try rw [e2]
   go_wp2_with fail
   refine HDQ.out.mono ?_
   rintro e w5 ⟨rfl,hb5⟩
   have BD5:=Lib.hid (BD4.out.below hb5)
   have BS5:=Lib.hid (BS4.out.trans (Bes.of hb5 (Nat.le_trans hN BS4.out.size)))
   have QB5:=Lib.hid (Blk.below QB4.out hb5 (Blk.lt QB4.out))
   clear hb5 r3 HDQ
   go_wp2_with fail
   refine (wr_put_new [[32],Fd.dateB x.at_] N b l2 w5 BD5.out.lt (Nat.le_trans hN BS5.out.size) BD5.out (by simp) (by have:=HP5.out;simp only [List.flatten_cons,List.flatten_nil,List.length_append,List.length_cons,List.length_nil];omega)).mono ?_
   rintro e w6 ⟨rfl,g1,g2⟩
   have BD6 : Hid (BdI 98 N b (Lib.byteCells (l2++dt)) w6):=by rw [HM.out];exact g1
   have BS6:=Lib.hid (BS5.out.trans g2)
   have QB6:=Lib.hid (g2.blk QB5.out hQb (by decide))
   clear g1 g2
   go_wp2_with fail
   go_meet
   case rel=>exact ⟨BD6,BS6,QB6⟩
 case rest =>
 as_aux_lemma =>
 obtain ⟨BD5,BS5,QB5⟩:=hcut
 obtain ⟨w5,hw5⟩ : ∃ y,y = wc:=⟨_,rfl⟩
 subst hw5
 clear r3 HDT HDP HP5 BD4 BS4 QB4
 have r4 : w5.cell? ⟨Q,4,none⟩ = some (.string (st x.ht)):=Blk.cell QB5.out 4
 obtain ⟨l3,hl3⟩ : ∃ l3,l2++dt = l3:=⟨_,rfl⟩
 have hl3l : l3.length≤1000000036300:=by rw [← hl3,List.length_append];omega
 rw [hl3] at BD5
 have HL3:=Lib.hid hl3
 clear hl3
 have HFX:=Lib.hid (HFT.out w5 (HS.out w5 (BS5.out.below HH.out.1 HH.out.2)).1)
 go_wp2_with fail
 refine HFX.out.mono ?_
 rintro e w6 ⟨rfl,hb6⟩
 have BD6:=Lib.hid (BD5.out.below hb6)
 have BS6:=Lib.hid (BS5.out.trans (Bes.of hb6 (Nat.le_trans hN BS5.out.size)))
 clear hb6 r4 HFX BD5 BS5 QB5
 go_wp2_with fail
 refine (HT3.out _).mono ?_
 rintro e w7 ⟨rfl,hb7⟩
 have BD7:=Lib.hid (BD6.out.below hb7)
 have BS7:=Lib.hid (BS6.out.trans (Bes.of hb7 (Nat.le_trans hN BS6.out.size)))
 clear hb7 BD6 BS6
 go_wp2_with fail
 refine (wr_put_new [[60,112,62],Mk.put (Fd.toldP x.ht),[60,47,112,62,60,47,108,105,62]] N b l3 w7 BD7.out.lt (Nat.le_trans hN BS7.out.size) BD7.out (by simp) (by simp only [List.flatten_cons,List.flatten_nil,List.length_append,List.length_cons,List.length_nil];omega)).mono ?_
 rintro e w8 ⟨rfl,g1,g2⟩
 have HFE : Hid (l++le = l3++[[60,112,62],Mk.put (Fd.toldP x.ht),[60,47,112,62,60,47,108,105,62]].flatten):=by
  show _ = _
  rw [HLE.out,← HL3.out,← HL2.out,← HL1.out]
  simp
 have BD8 : Hid (BdI 98 N b (Lib.byteCells (l++le)) w8):=by rw [HFE.out];exact g1
 have BS8:=Lib.hid (BS7.out.trans g2)
 clear g1 g2
 go_wp2_with fail
 go_end0
 exact ⟨rfl,BD8.out,BS8.out⟩
end Go.Proofs.YtjonkbdldebkiaaGreatDoor
