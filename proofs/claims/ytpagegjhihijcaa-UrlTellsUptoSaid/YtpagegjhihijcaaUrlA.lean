/- Contracts of the small functions of links, and of the reference's small words: each returns just what its plain Lean function says; the world is as it was. No condition but the strings' own sizes. -/
import Derived.Test.YtpagegjhihijcaaRows
import Derived.Test.YtpagegjhihijcaaUrlPlain
import Derived.Test.YtpagegjhihijcaaShelf
import Derived.Test.YtpagegjhihijcaaKit
import Derived.WalkKit
import Derived.WalkSpells
import Derived.WalkLawsBesides
import Derived.Lib.Hide
import Derived.Deep.QuietTactic
import Derived.BigQuiet
namespace Go.Proofs.Ytpagegjhihijcaa
open Go.RowKit


set_option maxHeartbeats 400000 in
theorem url_long (s : ByteArray) (w : World) :
    Calls Try.prog 19 #[.string s] w fun e w' => e = .returned (.bool (decide (3000 < s.size))) ∧ w = w' := by
  go_enter Try.func19, Try.ntmps19
  go_wp2
  go_ret
  refine ⟨ret_bool ?_, rfl⟩
  simp; omega

set_option maxHeartbeats 400000 in
theorem ref_between (n a b : Int) (w : World) :
    Calls Try.prog 39 #[.int .i64 n, .int .i64 a, .int .i64 b] w fun e w' => e = .returned (.bool (decide (a ≤ n ∧ n ≤ b))) ∧ w = w' := by
  go_enter Try.func39, Try.ntmps39
  go_wp2
  all_goals (go_ret; refine ⟨ret_bool ?_, rfl⟩; simp [*]; try omega)

set_option maxHeartbeats 400000 in
theorem url_lower (c : UInt8) (w : World) :
    Calls Try.prog 36 #[.int .u8 c.toNat] w fun e w' => e = .returned (.int .u8 (Mg.low c).toNat) ∧ w = w' := by
  have hl := Mg.low_nat c
  go_enter Try.func36, Try.ntmps36
  go_wp2
  all_goals (go_ret; refine ⟨ret_int ?_, rfl⟩; split at hl <;> omega)

set_option maxHeartbeats 400000 in
theorem ref_isLetter (c : UInt8) (w : World) :
    Calls Try.prog 38 #[.int .u8 c.toNat] w fun e w' => e = .returned (.bool (Mg.isLet c)) ∧ w = w' := by
  have hb : (c.toNat : Int) ≤ 255 := by have := c.toNat_lt; omega
  go_enter Try.func38, Try.ntmps38
  go_wp2_with (go_at_call 39; refine (ref_between _ _ _ _).mono ?_; rintro e w' ⟨rfl, rfl⟩)
  all_goals (go_ret; refine ⟨ret_bool ?_, rfl⟩; rw [Bool.eq_iff_iff, Mg.isLet_iff]; simp; try omega)

set_option maxHeartbeats 400000 in
theorem ref_schemeOf (s : ByteArray) (w : World) (hs : s.size ≤ 2097152) :
    Calls Try.prog 26 #[.string s] w fun e w' => e = .returned (.int .i64 (Mg.schOf s.data.toList)) ∧ w = w' := by
  go_enter Try.func26, Try.ntmps26
  go_wp2
  go_loop [3] (fun i => ∃ k : Nat, k ≤ s.size ∧ i = .int .i64 k ∧ Hid (Mg.schOf s.data.toList = Mg.schFrom k (s.data.toList.drop k))) (fun i => s.size - (intOf i).toNat)
  case atStart => exact ⟨0, Nat.zero_le _, rfl, rfl⟩
  case round =>
    obtain ⟨k, hk, rfl, hr⟩ := hrel
    by_cases hlt : k < s.size
    · have H : Hid (Mg.schOf s.data.toList = Mg.schFrom k (s[k] :: s.data.toList.drop (k + 1))) := by rw [← bs_drop s k hlt]; exact hr
      clear hr
      have hb : (s[k].toNat : Int) ≤ 255 := by have := s[k].toNat_lt; omega
      go_wp2_with (first | (go_at_call 38; refine (ref_isLetter _ _).mono ?_; rintro e w' ⟨rfl, rfl⟩) | (go_at_call 39; refine (ref_between _ _ _ _).mono ?_; rintro e w' ⟨rfl, rfl⟩))
      all_goals (try simp only [beq_iff_eq, beq_eq_false_iff_ne, ne_eq] at *)
      all_goals first
        | (go_ret; exact ⟨ret_int (by have := Mg.sch_stop H.out (by assumption); omega), rfl⟩)
        | (go_ret; exact ⟨ret_int (by have := Mg.sch_off H.out (by assumption) (by assumption) (by omega); omega), rfl⟩)
        | (go_round
           case rel => exact ⟨k + 1, by omega, by go_num, Mg.sch_on H.out (by assumption) (by first | exact .inl (by assumption) | exact .inr (by omega))⟩
           case measure => simp [intOf]; omega)
    · go_wp2
      go_ret
      exact ⟨ret_int (by rw [hr.out, List.drop_of_length_le (by simp; omega)]; rfl), rfl⟩


set_option maxHeartbeats 400000 in
theorem ref_startsAt (s p : ByteArray) (k : Nat) (w : World) (hk : k ≤ s.size) (hs : s.size ≤ 9223372036854775807) (hp : p.size ≤ 9223372036854775807) :
    Calls Try.prog 27 #[.string s, .int .i64 k, .string p] w fun e w' => e = .returned (.bool (Mg.pre p.data.toList (s.data.toList.drop k))) ∧ w = w' := by
  go_enter Try.func27, Try.ntmps27
  go_wp2
  · have h : (p.size : Int) ≤ (s.size : Int) - (k : Int) := by assumption
    go_ret
    refine ⟨ret_bool ?_, rfl⟩
    rw [extract_bs, Lib.toList_data, Mg.pre, bs_len]
    simp
  · have h : (s.size : Int) - (k : Int) < (p.size : Int) := by assumption
    go_ret
    refine ⟨ret_bool ?_, rfl⟩
    exact (Mg.pre_short _ _ (by simp; omega)).symm

theorem not_mem_snoc {p : ByteArray} {m : Nat} (hm : m < p.size) {c : UInt8} (h : c ∉ p.data.toList.take m) (hc : ((c.toNat : Int) == (p[m].toNat : Int)) = false) : c ∉ p.data.toList.take (m + 1) := by
  rw [List.take_succ_eq_append_getElem (by simpa using hm)]
  simp only [List.mem_append, List.mem_singleton, not_or]
  exact ⟨h, byte_ne hc⟩

def upToL (stops l : List UInt8) : Nat := (l.takeWhile (fun c => !stops.contains c)).length
theorem upToL_hit (stops l : List UInt8) (c : UInt8) (h : c ∈ stops) : upToL stops (c :: l) = 0 := by simp [upToL, h]
theorem upToL_miss (stops l : List UInt8) (c : UInt8) (h : c ∉ stops) : upToL stops (c :: l) = upToL stops l + 1 := by simp [upToL, h]

set_option maxHeartbeats 400000 in
theorem ref_upTo (s p : ByteArray) (k : Nat) (w : World) (hk : k ≤ s.size) (hs : s.size ≤ 9223372036854775806) (hp : p.size ≤ 9223372036854775806) :
    Calls Try.prog 28 #[.string s, .int .i64 k, .string p] w fun e w' => e = .returned (.int .i64 ((k + upToL p.data.toList (s.data.toList.drop k) : Nat) : Int)) ∧ ∃ n, w' = w.drewN n := by
  go_enter Try.func28, Try.ntmps28
  go_wp2
  go_loopw [1, 7] (fun i _ wr => ∃ j : Nat, j ≤ s.size ∧ i = .int .i64 j ∧ Hid (k + upToL p.data.toList (s.data.toList.drop k) = j + upToL p.data.toList (s.data.toList.drop j)) ∧ ∃ n, wr = w.drewN n) (fun i _ _ => s.size - (intOf i).toNat)
  case atStart => exact ⟨k, hk, rfl, rfl, 0, rfl⟩
  case round =>
    obtain ⟨j, hj, rfl, hr, n, rfl⟩ := hrel
    by_cases hlt : j < s.size
    · go_wp2
      go_loopw [7] (fun i wr => ∃ m : Nat, m ≤ p.size ∧ i = .int .i64 m ∧ Hid (s[j] ∉ p.data.toList.take m) ∧ ∃ n, wr = w.drewN n) (fun i _ => p.size - (intOf i).toNat)
      case atStart => exact ⟨0, Nat.zero_le _, rfl, by show _ ∉ _; simp, n, rfl⟩
      case round =>
        obtain ⟨m, hm, rfl, hno, n2, rfl⟩ := hrel
        by_cases hlm : m < p.size
        · go_wp2
          go_quiet (fail)
          go_wp2
          · have h : ((s[j].toNat : Int) == (p[m].toNat : Int)) = true := by assumption
            go_ret
            refine ⟨ret_int ?_, n2 + nq, by first | rfl | exact World.drewN_drewN _ _ _⟩
            have h2 : s[j] ∈ p.data.toList := by rw [byte_eq h]; exact byte_mem p m hlm
            rw [hr.out, bs_drop s j hlt, upToL_hit _ _ _ h2]; simp
          · have h : ((s[j].toNat : Int) == (p[m].toNat : Int)) = false := by assumption
            go_roundw
            case rel => exact ⟨m + 1, by omega, by go_num, not_mem_snoc hlm hno.out h, n2 + nq, by first | rfl | exact World.drewN_drewN _ _ _⟩
            case measure => simp [intOf]; omega
        · go_wp2
          go_roundw
          case rel =>
            have e : s[j] ∉ p.data.toList := by have := hno.out; rwa [List.take_of_length_le (by simp; omega)] at this
            exact ⟨j + 1, by omega, by go_num, by show _ = _; rw [hr.out, bs_drop s j hlt, upToL_miss _ _ _ e]; omega, _, rfl⟩
          case measure => simp [intOf]; omega
    · go_wp2
      go_ret
      refine ⟨ret_int (by rw [hr.out, List.drop_of_length_le (by simp; omega)]; simp [upToL]), n, rfl⟩

theorem Try.infoB : (Try.prog.info? 5).map (fun i => (i.zero, i.size, i.bytes)) = some (some (.int .u8 0), 1, 1) := by kernel_rfl

set_option maxHeartbeats 400000 in
theorem ref_FoldOf (s : ByteArray) (w : World) (hs : s.size ≤ 2097152) :
    Calls Try.prog 29 #[.string s] w fun e w' => e = .returned (.string ⟨(Mg.fold s.data.toList).toArray⟩) ∧ Below w.heap.size w w' := by
  obtain ⟨i0, hi, hz0, hz1, hz2⟩ := info_parts Try.infoB
  go_enter Try.func29, Try.ntmps29
  go_wp2
  have hcv := fun (W : World) (v : Value) (n : Nat) (l : List UInt8) => run_convert_own (P := Try.prog) W 44 9 5 Try.underlying44 Try.underlying5 Try.underlying9 (base := w.heap.size) (n := n) (v := v) l
  go_loopw [3, 4] (fun v i wr => ∃ k : Nat, k ≤ s.size ∧ i = .int .i64 k ∧ wr.ownsRow w.heap.size 5 1 v k (bv (Mg.fold (s.data.toList.take k))) ∧ Below w.heap.size w wr) (fun _ i _ => s.size - (intOf i).toNat)
  case atStart => exact ⟨0, Nat.zero_le _, rfl, World.ownsRow_nil _ _ _ _, Below.refl _ _⟩
  case round =>
    obtain ⟨k, hk, rfl, hown, hbl⟩ := hrel
    by_cases hlt : k < s.size
    · have hb : (s[k].toNat : Int) ≤ 255 := by have := s[k].toNat_lt; omega
      have hsz := hbl.size
      have hl := Mg.low_nat s[k]
      have hf : Mg.fold (s.data.toList.take (k + 1)) = Mg.fold (s.data.toList.take k) ++ [Mg.low s[k]] := by rw [bs_take s k hlt]; simp [Mg.fold]
      by_cases hup : 65 ≤ (s[k].toNat : Int) ∧ (s[k].toNat : Int) ≤ 90
      · have hv : ((Mg.low s[k]).toNat : Int) = (s[k].toNat : Int) + 32 := by rw [hl, if_pos (by omega)]; omega
        have HV := Lib.hid hv; have HF := Lib.hid hf
        clear hv hl hf hcv
        go_wp2_with (first | (go_at_call 39; refine (ref_between _ _ _ _).mono ?_; rintro e w' ⟨rfl, rfl⟩) | (at_builtin; refine wpList_append_own _ rfl _ _ 44 rfl w.heap.size 5 i0 (.int .u8 0) 1 1 Try.underlying44 hi hz0 hz1 hz2 rfl (by decide) _ _ _ rfl (hown.alloc _) ⟨wr.heap.size, 0, none⟩ 1 1 [.int .u8 ((s[k].toNat : Int) + 32)] rfl rfl (cell_one_new _ _ _) (one_cell _ rfl) (by unfold maxLen; omega) (by omega) (by simp; omega) ?_))
        intro v' w1 hown' hgrow _
        have hbl1 := below_grown (hbl.alloc hsz _) (hown.alloc _) hgrow (by simp; omega)
        rw [← HV.out, ← bv_snoc, ← HF.out] at hown'
        clear hown hgrow hbl
        go_wp2
        go_roundw
        case rel => exact ⟨k + 1, by omega, by go_num, hown', hbl1⟩
        case measure => simp [intOf]; omega
      · have hv : ((Mg.low s[k]).toNat : Int) = (s[k].toNat : Int) := by rw [hl, if_neg (by omega)]
        have HV := Lib.hid hv; have HF := Lib.hid hf
        clear hv hl hf hcv
        go_wp2_with (first | (go_at_call 39; refine (ref_between _ _ _ _).mono ?_; rintro e w' ⟨rfl, rfl⟩) | (at_builtin; refine wpList_append_own _ rfl _ _ 44 rfl w.heap.size 5 i0 (.int .u8 0) 1 1 Try.underlying44 hi hz0 hz1 hz2 rfl (by decide) _ _ _ rfl (hown.alloc _) ⟨wr.heap.size, 0, none⟩ 1 1 [.int .u8 (s[k].toNat : Int)] rfl rfl (cell_one_new _ _ _) (one_cell _ rfl) (by unfold maxLen; omega) (by omega) (by simp; omega) ?_))
        intro v' w1 hown' hgrow _
        have hbl1 := below_grown (hbl.alloc hsz _) (hown.alloc _) hgrow (by simp; omega)
        rw [← HV.out, ← bv_snoc, ← HF.out] at hown'
        clear hown hgrow hbl
        go_wp2
        go_roundw
        case rel => exact ⟨k + 1, by omega, by go_num, hown', hbl1⟩
        case measure => simp [intOf]; omega
    · rw [List.take_of_length_le (by simp; omega)] at hown
      have hc := hcv wr u3 k _ hown
      clear hcv
      go_wp2
      go_ret
      exact ⟨rfl, hbl⟩
end Go.Proofs.Ytpagegjhihijcaa
