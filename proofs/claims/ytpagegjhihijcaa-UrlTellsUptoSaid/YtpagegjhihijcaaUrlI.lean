/- Contracts of merged, Resolved and Resolve. Condition: a base and a link of at most 3000 bytes. -/
import Derived.Test.YtpagegjhihijcaaUrlH
namespace Go.Proofs.Ytpagegjhihijcaa
open Go.RowKit

theorem last_cut (a b : List UInt8) (hb : (47 : UInt8) ∉ b) (ha : a = [] ∨ ∃ t, a = t ++ [47]) : ((a ++ b).reverse.dropWhile (· != 47)).reverse = a := by
  rw [List.reverse_append, Mg.dropWhile_no _ _ (by simpa using hb)]
  rcases ha with rfl | ⟨t, rfl⟩
  · rfl
  · simp
/-- up to the last slash. -/
theorem last_cases (s : ByteArray) : ∃ m, m ≤ s.size ∧ (s.data.toList.reverse.dropWhile (· != 47)).reverse = s.data.toList.take m ∧ Lib.lastIndexByte s 47 = (m : Int) - 1 := by
  have hget : ∀ j (hj : j < s.size), s.data[j]! = s.data.toList[j]'(by simpa using hj) := fun j hj => by
    have h1 : j < s.data.size := hj
    rw [getElem!_pos s.data j h1]
    simp
  have hlen : s.data.toList.length = s.size := by simp
  rcases Lib.lastIdx_spec s 47 s.size with ⟨h1, h2⟩ | ⟨i, hi, h1, h2, h3⟩
  · refine ⟨0, Nat.zero_le _, ?_, by unfold Lib.lastIndexByte; omega⟩
    have h := last_cut [] s.data.toList (by
      intro hm
      obtain ⟨j, hj, he⟩ := List.getElem_of_mem hm
      have hjs : j < s.size := by omega
      have := h2 j hjs
      rw [hget j hjs, he] at this
      exact this rfl) (.inl rfl)
    simpa using h
  · refine ⟨i + 1, by omega, ?_, by unfold Lib.lastIndexByte; omega⟩
    have hil : i < s.data.toList.length := by omega
    have e47 : s.data.toList[i] = 47 := by
      rw [hget i hi] at h2
      exact UInt8.toNat_inj.1 (by rw [show (47 : UInt8).toNat = 47 from rfl]; omega)
    have h := last_cut (s.data.toList.take (i + 1)) (s.data.toList.drop (i + 1)) (by
      intro hm
      obtain ⟨j, hj, he⟩ := List.getElem_of_mem hm
      rw [List.length_drop] at hj
      rw [List.getElem_drop] at he
      have hjs : i + 1 + j < s.size := by omega
      have := h3 (i + 1 + j) (by omega) hjs
      rw [hget _ hjs, he] at this
      exact this rfl) (.inr ⟨s.data.toList.take i, by rw [List.take_succ_eq_append_getElem hil, e47]⟩)
    rwa [List.take_append_drop] at h

set_option maxHeartbeats 1000000 in
theorem url_merged (b u : Mg.U) (w : World) (hb : b.pa.length ≤ 2097152) (hu : u.pa.length ≤ 2097152) :
    Calls Try.prog 37 #[uVal b, uVal u] w fun e w' => e = .returned (.string (st (Mg.mergeP b u))) ∧ Below w.heap.size w w' := by
  have hw2 : Below w.heap.size w ((w.alloc (.cells (uCells b) 23)).alloc (.cells (uCells u) 23)) := ((Below.refl _ w).alloc (Nat.le_refl _) _).alloc (by simp) _
  have b1 := Blk.new (w.alloc (.cells (uCells b) 23)) 23 (uCells u)
  have e1 : (w.alloc (.cells (uCells b) 23)).heap.size = w.heap.size + 1 := by simp
  rw [e1] at b1
  have b0 := (Blk.new w 23 (uCells b)).alloc (.cells (uCells u) 23)
  clear e1
  unfold uVal
  go_enter Try.func37, Try.ntmps37
  go_upto_region 1 with fail
  change Code.wp _ _ _ _ ((w.alloc (.cells (uCells b) 23)).alloc (.cells (uCells u) 23))
  generalize (w.alloc (.cells (uCells b) 23)).alloc (.cells (uCells u) 23) = w2 at hw2 b0 b1 ⊢
  have c1 : w2.cell? ⟨w.heap.size, 6, none⟩ = some (.bool b.ha) := b0.cell 6
  have c2 : w2.cell? ⟨w.heap.size, 2, none⟩ = some (.string (st b.pa)) := b0.cell 2
  have c3 : w2.cell? ⟨w.heap.size + 1, 2, none⟩ = some (.string (st u.pa)) := b1.cell 2
  clear b0 b1
  have z1 : (st b.pa).size ≤ 2097152 := hb
  have z2 : (st u.pa).size ≤ 2097152 := hu
  by_cases hc : b.ha = true ∧ b.pa = []
  · obtain ⟨h1, h2⟩ := hc
    rw [h1] at c1
    rw [h2] at c2
    have he : (st []).toList = [] := Lib.toList_data _
    have HM : Hid (Mg.mergeP b u = 47 :: u.pa) := by show _ = _; simp [Mg.mergeP, h1, h2]
    clear h1 h2
    go_wp2_with fail
    go_ret
    refine ⟨?_, hw2⟩
    rw [HM.out]
    exact ret_str (app_st _ _)
  · have HNF : Hid ((b.ha && b.pa.isEmpty) = false) := by
      show _ = _
      cases hx : b.ha with
      | false => rfl
      | true =>
        cases hy : b.pa with
        | nil => exact absurd ⟨hx, hy⟩ hc
        | cons _ _ => rfl
    obtain ⟨m, m1, m2, m3⟩ := last_cases (st b.pa)
    have HM : Hid (Mg.mergeP b u = b.pa.take m ++ u.pa) := by
      show _ = _
      have hf : (b.ha && b.pa.isEmpty) = false := HNF.out
      rw [Mg.mergeP, if_neg (by rw [hf]; exact Bool.false_ne_true)]
      exact congrArg (· ++ u.pa) m2
    have M3 := Lib.hid m3
    clear m2 m3
    have m4 : (m : Int) ≤ (st b.pa).size := by omega
    have lc := fun W => (Try.strings_LastIndexByte (st b.pa) 47 (by omega) W)
    rw [M3.out] at lc
    have LC := Lib.hid lc
    clear lc
    have k1 : (0 : Int) ≤ (m : Int) - 1 + 1 := by omega
    have k2 : IntKind.i64.wrap ((m : Int) - 1 + 1) = (m : Int) := by rw [IntWalk.i64_in _ (by omega)]; omega
    have k3 : ((st b.pa).extract 0 m).size ≤ 2097152 := by rw [extract_pre]; simp [st_size]; omega
    by_cases hha : b.ha = true
    · rw [hha] at c1
      have he : (st b.pa).toList.isEmpty = false := by
        have e1 : (st b.pa).toList = b.pa := Lib.toList_data _
        rw [e1]
        have := HNF.out
        rw [hha] at this
        simpa using this
      clear hha hc
      go_upto_region 3 with fail
      go_quiet ((go_at_call 51; exact Calls.quiet_of_same (LC.out _)))
      go_wp2_with fail
      go_ret
      refine ⟨?_, below_drewN hw2 _⟩
      rw [HM.out]
      refine ret_str ?_
      rw [extract_pre, app_st]
      rfl
    · have hha' : b.ha = false := by simpa using hha
      rw [hha'] at c1
      clear hha hha' hc
      go_upto_region 3 with fail
      go_quiet ((go_at_call 51; exact Calls.quiet_of_same (LC.out _)))
      go_wp2_with fail
      go_ret
      refine ⟨?_, below_drewN hw2 _⟩
      rw [HM.out]
      refine ret_str ?_
      rw [extract_pre, app_st]
      rfl
end Go.Proofs.Ytpagegjhihijcaa
