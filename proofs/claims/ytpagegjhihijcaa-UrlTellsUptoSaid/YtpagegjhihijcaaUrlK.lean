/- Contracts of Resolve: by its four ways. No condition but the one that each names. -/
import Derived.Test.YtpagegjhihijcaaUrlJ
namespace Go.Proofs.Ytpagegjhihijcaa
open Go.RowKit

set_option maxHeartbeats 400000 in
theorem url_Resolve_long (base s : ByteArray) (w : World) (h : 3000 < base.size ∨ 3000 < s.size) :
    Calls Try.prog 10 #[.string base, .string s] w fun e w' => e = .returned (.tuple #[.string (st []), .int .i64 2]) ∧ Below w.heap.size w w' := by
  by_cases hb : 3000 < base.size
  · have hd : decide (3000 < base.size) = true := by simpa using hb
    go_enter Try.func10, Try.ntmps10
    go_wp2_with (go_at_call 19; refine (url_long _ _).mono ?_; rintro e w' ⟨rfl, rfl⟩; rw [hd])
    go_ret2
    exact ⟨rfl, Below.refl _ _⟩
  · have hd : decide (3000 < base.size) = false := by simpa using hb
    have hd2 : decide (3000 < s.size) = true := by simpa using h.resolve_left hb
    clear hb h
    go_enter Try.func10, Try.ntmps10
    go_wp2_with fail
    refine (url_long base _).mono ?_
    rintro e w' ⟨rfl, rfl⟩
    rw [hd]
    go_wp2_with fail
    refine (url_long s _).mono ?_
    rintro e w' ⟨rfl, rfl⟩
    rw [hd2]
    go_wp2_with fail
    go_ret2
    exact ⟨rfl, Below.refl _ _⟩

set_option maxHeartbeats 400000 in
theorem url_Resolve_bare (base s : ByteArray) (w : World) (hb : base.size ≤ 3000) (hs : s.size ≤ 3000) (h0 : Mg.schOf base.data.toList = 0) :
    Calls Try.prog 10 #[.string base, .string s] w fun e w' => e = .returned (.tuple #[.string (st []), .int .i64 1]) ∧ Below w.heap.size w w' := by
  have hd : decide (3000 < base.size) = false := decide_eq_false (by omega)
  have hd2 : decide (3000 < s.size) = false := decide_eq_false (by omega)
  have H0 := Lib.hid h0
  clear h0
  go_enter Try.func10, Try.ntmps10
  go_wp2_with fail
  refine (url_long base _).mono ?_
  rintro e w' ⟨rfl, rfl⟩
  rw [hd]
  go_wp2_with fail
  refine (url_long s _).mono ?_
  rintro e w' ⟨rfl, rfl⟩
  rw [hd2]
  go_wp2_with fail
  refine (url_scheme base _ (by omega)).mono ?_
  rintro e w1 ⟨rfl, hb1⟩
  rw [H0.out]
  go_wp2_with fail
  go_ret2
  exact ⟨rfl, hb1⟩

set_option maxHeartbeats 400000 in
theorem url_Resolve_no (base s : ByteArray) (w : World) (hb : base.size ≤ 3000) (hs : s.size ≤ 3000) (h0 : Mg.schOf base.data.toList ≠ 0) (hn : Mg.joinOk (Mg.resU (Mg.split base.data.toList) (Mg.split s.data.toList)) = false) :
    Calls Try.prog 10 #[.string base, .string s] w fun e w' => e = .returned (.tuple #[.string (st []), .int .i64 1]) ∧ Below w.heap.size w w' := by
  have hd : decide (3000 < base.size) = false := decide_eq_false (by omega)
  have hd2 : decide (3000 < s.size) = false := decide_eq_false (by omega)
  obtain ⟨n, hne⟩ : ∃ n, n = Mg.schOf base.data.toList := ⟨_, rfl⟩
  rw [← hne] at h0
  have hz : ((n : Int) == 0) = false := beq_eq_false_iff_ne.2 (by omega)
  have HN := Lib.hid hne; have HJ := Lib.hid hn
  clear hne hn
  go_enter Try.func10, Try.ntmps10
  go_wp2_with fail
  refine (url_long base _).mono ?_
  rintro e w' ⟨rfl, rfl⟩
  rw [hd]
  go_wp2_with fail
  refine (url_long s _).mono ?_
  rintro e w' ⟨rfl, rfl⟩
  rw [hd2]
  go_wp2_with fail
  refine (url_scheme base _ (by omega)).mono ?_
  rintro e w1 ⟨rfl, hb1⟩
  rw [← HN.out]
  go_wp2_with fail
  refine (url_Resolved base s _ hb hs).mono ?_
  rintro e w2 ⟨rfl, hb2⟩
  rw [HJ.out]
  go_wp2_with fail
  go_ret2
  exact ⟨rfl, hb1.trans (hb2.mono hb1.size)⟩

set_option maxHeartbeats 400000 in
theorem url_Resolve_ok (base s : ByteArray) (w : World) (hb : base.size ≤ 3000) (hs : s.size ≤ 3000) (h0 : Mg.schOf base.data.toList ≠ 0) (hn : Mg.joinOk (Mg.resU (Mg.split base.data.toList) (Mg.split s.data.toList)) = true) :
    Calls Try.prog 10 #[.string base, .string s] w fun e w' => e = .returned (.tuple #[.string (st (Mg.join (Mg.resU (Mg.split base.data.toList) (Mg.split s.data.toList)))), .int .i64 0]) ∧ Below w.heap.size w w' := by
  have hd : decide (3000 < base.size) = false := decide_eq_false (by omega)
  have hd2 : decide (3000 < s.size) = false := decide_eq_false (by omega)
  obtain ⟨n, hne⟩ : ∃ n, n = Mg.schOf base.data.toList := ⟨_, rfl⟩
  rw [← hne] at h0
  have hz : ((n : Int) == 0) = false := beq_eq_false_iff_ne.2 (by omega)
  have HN := Lib.hid hne; have HJ := Lib.hid hn
  clear hne hn
  go_enter Try.func10, Try.ntmps10
  go_wp2_with fail
  refine (url_long base _).mono ?_
  rintro e w' ⟨rfl, rfl⟩
  rw [hd]
  go_wp2_with fail
  refine (url_long s _).mono ?_
  rintro e w' ⟨rfl, rfl⟩
  rw [hd2]
  go_wp2_with fail
  refine (url_scheme base _ (by omega)).mono ?_
  rintro e w1 ⟨rfl, hb1⟩
  rw [← HN.out]
  go_wp2_with fail
  refine (url_Resolved base s _ hb hs).mono ?_
  rintro e w2 ⟨rfl, hb2⟩
  rw [HJ.out]
  go_wp2_with fail
  go_ret2
  exact ⟨rfl, hb1.trans (hb2.mono hb1.size)⟩
end Go.Proofs.Ytpagegjhihijcaa
