/- Contracts of Split and Join of links, and of the path without dots. -/
import Derived.Test.YtpagegjhihijcaaUrlD
namespace Go.Proofs.Ytpagegjhihijcaa
open Go.RowKit

theorem res_new {w w1 : World} (hb : Below (w.alloc (.cells zCells 23)).heap.size (w.alloc (.cells zCells 23)) w1) : Blk w1 w.heap.size 23 zCells ∧ Below w.heap.size w w1 := by
  have e1 : (w.alloc (.cells zCells 23)).heap.size = w.heap.size + 1 := by simp
  exact ⟨(Blk.new w _ _).below hb (by omega), ((Below.refl _ w).alloc (Nat.le_refl _) _).trans (hb.mono (by omega))⟩

set_option maxHeartbeats 400000 in
theorem url_Split_long (s : ByteArray) (w : World) (hs : 3000 < s.size) :
    Calls Try.prog 7 #[.string s] w fun e w' => e = .returned (.tuple #[uVal Mg.nilU, .int .i64 2]) ∧ Below w.heap.size w w' := by
  have hd : decide (3000 < s.size) = true := by simpa using hs
  go_enter Try.func7, Try.ntmps7
  go_wp2_with (go_at_call 19; refine (url_long _ _).mono ?_; rintro e w' ⟨rfl, rfl⟩; rw [hd])
  refine bodyPost_ret (v := .tuple #[uVal Mg.nilU, .int .i64 2]) (by simp [results, Try.results7, go_sem]; rfl) rfl ⟨rfl, (Below.refl _ _).alloc (Nat.le_refl _) _⟩
set_option maxHeartbeats 400000 in
theorem url_Split_ok (s : ByteArray) (w : World) (hs : s.size ≤ 3000) :
    Calls Try.prog 7 #[.string s] w fun e w' => e = .returned (.tuple #[uVal (Mg.split s.data.toList), .int .i64 0]) ∧ Below w.heap.size w w' := by
  have hd : decide (3000 < s.size) = false := decide_eq_false (by omega)
  go_enter Try.func7, Try.ntmps7
  go_wp2_with (go_at_call 19; refine (url_long _ _).mono ?_; rintro e w' ⟨rfl, rfl⟩; rw [hd])
  refine (url_Parts s _ (by omega)).mono ?_
  rintro e w1 ⟨rfl, hb1⟩
  obtain ⟨hz, hbl⟩ := res_new hb1
  clear hb1
  obtain ⟨u, hu⟩ : ∃ u, u = Mg.split s.data.toList := ⟨_, rfl⟩
  rw [← hu]
  have HU := Lib.hid hu
  clear hu
  have z0 : w1.cell? ⟨w.heap.size, 0, none⟩ = some (.string (st [])) := hz.cell 0
  have z1 : w1.cell? ⟨w.heap.size, 1, none⟩ = some (.string (st [])) := hz.cell 1
  have z2 : w1.cell? ⟨w.heap.size, 2, none⟩ = some (.string (st [])) := hz.cell 2
  have z3 : w1.cell? ⟨w.heap.size, 3, none⟩ = some (.string (st [])) := hz.cell 3
  have z4 : w1.cell? ⟨w.heap.size, 4, none⟩ = some (.string (st [])) := hz.cell 4
  have z5 : w1.cell? ⟨w.heap.size, 5, none⟩ = some (.bool false) := hz.cell 5
  have z6 : w1.cell? ⟨w.heap.size, 6, none⟩ = some (.bool false) := hz.cell 6
  have z7 : w1.cell? ⟨w.heap.size, 7, none⟩ = some (.bool false) := hz.cell 7
  have z8 : w1.cell? ⟨w.heap.size, 8, none⟩ = some (.bool false) := hz.cell 8
  have y : ∀ i, w1.frozen? ⟨w.heap.size, i, none⟩ = false := hz.frozen
  unfold uVal
  go_wp2_with fail
  refine bodyPost_ret (v := .tuple #[uVal u, .int .i64 0]) (by simp [results, Try.results7, go_sem, *]; rfl) rfl ⟨by rw [HU.out], ?_⟩
  exact ((((((((hbl.setCell (Nat.le_refl _) _).setCell (Nat.le_refl _) _).setCell (Nat.le_refl _) _).setCell (Nat.le_refl _) _).setCell (Nat.le_refl _) _).setCell (Nat.le_refl _) _).setCell (Nat.le_refl _) _).setCell (Nat.le_refl _) _).setCell (Nat.le_refl _) _

set_option maxHeartbeats 400000 in
theorem url_Join_yes (u : Mg.U) (w : World) (hl : u.sch.length + u.au.length + u.pa.length + u.qu.length + u.fr.length ≤ 1048576) (hj : Mg.joinOk u = true) :
    Calls Try.prog 8 #[uVal u] w fun e w' => e = .returned (.tuple #[.string (st (Mg.join u)), .int .i64 0]) ∧ Below w.heap.size w w' := by
  have hJ := fun W => url_joined u W hl
  rw [hj] at hJ
  have HJ := Lib.hid hJ
  clear hJ hj
  unfold uVal at *
  go_enter Try.func8, Try.ntmps8
  go_wp2_with (go_at_call 21; refine (HJ.out _).mono ?_; rintro e w1 ⟨rfl, hb1⟩)
  go_ret2
  exact ⟨rfl, ((Below.refl _ _).alloc (Nat.le_refl _) _).trans (hb1.mono (by simp))⟩
set_option maxHeartbeats 400000 in
theorem url_Join_no (u : Mg.U) (w : World) (hl : u.sch.length + u.au.length + u.pa.length + u.qu.length + u.fr.length ≤ 1048576) (hj : Mg.joinOk u = false) :
    Calls Try.prog 8 #[uVal u] w fun e w' => e = .returned (.tuple #[.string (st []), .int .i64 1]) ∧ Below w.heap.size w w' := by
  have hJ := fun W => url_joined u W hl
  rw [hj] at hJ
  have HJ := Lib.hid hJ
  clear hJ hj
  unfold uVal at *
  go_enter Try.func8, Try.ntmps8
  go_wp2_with (go_at_call 21; refine (HJ.out _).mono ?_; rintro e w1 ⟨rfl, hb1⟩)
  go_ret2
  exact ⟨rfl, ((Below.refl _ _).alloc (Nat.le_refl _) _).trans (hb1.mono (by simp))⟩
end Go.Proofs.Ytpagegjhihijcaa
