/- The laws' small functions over links: tooLong; what must be in any case (urlBegun). -/
import Derived.Test.YtpagegjhihijcaaUrlK
namespace Go.Proofs.Ytpagegjhihijcaa
open Go.RowKit

set_option maxHeartbeats 400000 in
theorem law_tooLong (s : ByteArray) (w : World) :
    Calls Try.prog 12 #[.string s] w fun e w' => e = .returned (.int .i64 (if 3000 < s.size then 2 else 0)) ∧ w = w' := by
  by_cases h : 3000 < s.size
  · rw [if_pos h]
    go_enter Try.func12, Try.ntmps12
    go_wp2
    go_ret
    exact ⟨rfl, rfl⟩
  · rw [if_neg h]
    go_enter Try.func12, Try.ntmps12
    go_wp2
    go_ret
    exact ⟨rfl, rfl⟩

def u0 : Mg.U := ⟨[104, 116, 116, 112], [97], [47, 98, 47, 99, 47, 100, 59, 112], [113], [102], true, true, true, true⟩
abbrev t0 : List UInt8 := [104, 116, 116, 112, 58, 47, 47, 97, 47, 98, 47, 99, 47, 100, 59, 112, 63, 113, 35, 102]
theorem begun_split (w : World) : Calls Try.prog 7 #[.string (st t0)] w fun e w' => e = .returned (.tuple #[uVal u0, .int .i64 0]) ∧ Below w.heap.size w w' := by
  have h := url_Split_ok (st t0) w (by decide)
  have e : Mg.split (st t0).data.toList = u0 := by decide +kernel
  rwa [e] at h
theorem begun_join (w : World) : Calls Try.prog 8 #[uVal u0] w fun e w' => e = .returned (.tuple #[.string (st t0), .int .i64 0]) ∧ Below w.heap.size w w' := by
  have h := url_Join_yes u0 w (by decide) (by decide +kernel)
  have e : Mg.join u0 = t0 := by decide +kernel
  rwa [e] at h
theorem begun_dots (w : World) : Calls Try.prog 9 #[.string (st [47, 97, 47, 98, 47, 99, 47, 46, 47, 46, 46, 47, 46, 46, 47, 103])] w fun e w' => e = .returned (.tuple #[.string (st [47, 97, 47, 103]), .int .i64 0]) ∧ Below w.heap.size w w' := by
  have h := url_Dots_ok (st [47, 97, 47, 98, 47, 99, 47, 46, 47, 46, 46, 47, 46, 46, 47, 103]) w (by decide)
  have e : Mg.dots (st [47, 97, 47, 98, 47, 99, 47, 46, 47, 46, 46, 47, 46, 46, 47, 103]).data.toList = [47, 97, 47, 103] := by decide +kernel
  rwa [e] at h
theorem begun_resolve (w : World) : Calls Try.prog 10 #[.string (st [104, 116, 116, 112, 58, 47, 47, 97, 47, 98, 47, 99, 47, 100, 59, 112, 63, 113]), .string (st [46, 46, 47, 103, 63, 121, 35, 115])] w fun e w' => e = .returned (.tuple #[.string (st [104, 116, 116, 112, 58, 47, 47, 97, 47, 98, 47, 103, 63, 121, 35, 115]), .int .i64 0]) ∧ Below w.heap.size w w' := by
  have h := url_Resolve_ok (st [104, 116, 116, 112, 58, 47, 47, 97, 47, 98, 47, 99, 47, 100, 59, 112, 63, 113]) (st [46, 46, 47, 103, 63, 121, 35, 115]) w (by decide) (by decide) (by decide +kernel) (by decide +kernel)
  have e : Mg.join (Mg.resU (Mg.split (st [104, 116, 116, 112, 58, 47, 47, 97, 47, 98, 47, 99, 47, 100, 59, 112, 63, 113]).data.toList) (Mg.split (st [46, 46, 47, 103, 63, 121, 35, 115]).data.toList)) = [104, 116, 116, 112, 58, 47, 47, 97, 47, 98, 47, 103, 63, 121, 35, 115] := by decide +kernel
  rwa [e] at h
theorem begun_safe1 (w : World) : Calls Try.prog 11 #[.string (st [74, 97, 118, 97, 83, 99, 114, 105, 112, 116, 58, 120])] w fun e w' => e = .returned (.tuple #[.bool false, .int .i64 0]) ∧ Below w.heap.size w w' := by
  have h := url_Safe_ok (st [74, 97, 118, 97, 83, 99, 114, 105, 112, 116, 58, 120]) w (by decide)
  have e : Mg.isSafe (st [74, 97, 118, 97, 83, 99, 114, 105, 112, 116, 58, 120]).data.toList = false := by decide +kernel
  rwa [e] at h
theorem begun_safe2 (w : World) : Calls Try.prog 11 #[.string (st [32, 104, 116, 10, 116, 112, 115, 58, 47, 47, 120])] w fun e w' => e = .returned (.tuple #[.bool true, .int .i64 0]) ∧ Below w.heap.size w w' := by
  have h := url_Safe_ok (st [32, 104, 116, 10, 116, 112, 115, 58, 47, 47, 120]) w (by decide)
  have e : Mg.isSafe (st [32, 104, 116, 10, 116, 112, 115, 58, 47, 47, 120]).data.toList = true := by decide +kernel
  rwa [e] at h

set_option maxHeartbeats 1000000 in
set_option maxRecDepth 100000 in
theorem law_urlBegun (w : World) :
    Calls Try.prog 17 #[] w fun e w' => e = .returned (.bool true) ∧ Below w.heap.size w w' := by
  go_enter Try.func17, Try.ntmps17
  go_wp2_with fail
  refine (begun_split _).mono ?_
  rintro e w1 ⟨rfl, hb1⟩
  unfold uVal u0
  go_wp2_with fail
  change Calls _ _ #[uVal u0] (w1.alloc (.cells (uCells u0) 23)) _
  have hbk := Blk.new w1 23 (uCells u0)
  have hbl := hb1.alloc hb1.size (.cells (uCells u0) 23)
  generalize w1.alloc (.cells (uCells u0) 23) = w2 at hbk hbl ⊢
  generalize w1.heap.size = B at hbk ⊢
  refine (begun_join _).mono ?_
  rintro e w3 ⟨rfl, hb3⟩
  have k3 := hbk.below hb3 hbk.lt
  have l3 := hbl.trans (hb3.mono hbl.size)
  clear hb1 hbk hbl hb3
  go_wp2_with fail
  refine (begun_dots _).mono ?_
  rintro e w4 ⟨rfl, hb4⟩
  have k4 := k3.below hb4 k3.lt
  have l4 := l3.trans (hb4.mono l3.size)
  clear k3 l3 hb4
  go_wp2_with fail
  refine (begun_resolve _).mono ?_
  rintro e w5 ⟨rfl, hb5⟩
  have k5 := k4.below hb5 k4.lt
  have l5 := l4.trans (hb5.mono l4.size)
  clear k4 l4 hb5
  go_wp2_with fail
  refine (begun_safe1 _).mono ?_
  rintro e w6 ⟨rfl, hb6⟩
  have k6 := k5.below hb6 k5.lt
  have l6 := l5.trans (hb6.mono l5.size)
  clear k5 l5 hb6
  go_wp2_with fail
  refine (begun_safe2 _).mono ?_
  rintro e w7 ⟨rfl, hb7⟩
  have k7 := k6.below hb7 k6.lt
  have l7 := l6.trans (hb7.mono l6.size)
  clear k6 l6 hb7
  have c1 : w7.cell? ⟨B, 1, none⟩ = some (.string (st [97])) := k7.cell 1
  have c2 : w7.cell? ⟨B, 2, none⟩ = some (.string (st [47, 98, 47, 99, 47, 100, 59, 112])) := k7.cell 2
  have c4 : w7.cell? ⟨B, 4, none⟩ = some (.string (st [102])) := k7.cell 4
  have hst : ∀ l, (st l).toList = l := fun l => Lib.toList_data _
  go_wp2_with fail
  go_ret
  exact ⟨rfl, l7⟩
end Go.Proofs.Ytpagegjhihijcaa
