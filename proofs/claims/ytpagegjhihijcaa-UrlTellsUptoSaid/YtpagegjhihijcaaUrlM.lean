/- The law that a link is what its parts make: UrlBack answers true, whatever it is handed. -/
import Derived.Test.YtpagegjhihijcaaUrlL
namespace Go.Proofs.Ytpagegjhihijcaa
open Go.RowKit

/-- Resolve in one sentence. -/
theorem url_Resolve_any (base s : ByteArray) : ∃ (r : List UInt8) (c : Int), (∀ w : World, Calls Try.prog 10 #[.string base, .string s] w fun e w' => e = .returned (.tuple #[.string (st r), .int .i64 c]) ∧ Below w.heap.size w w') ∧ ((c = 0 ∧ base.size ≤ 3000 ∧ s.size ≤ 3000 ∧ Mg.schOf base.data.toList ≠ 0 ∧ Mg.res base.data.toList s.data.toList = some r) ∨ (r = [] ∧ ((c = 2 ∧ (3000 < base.size ∨ 3000 < s.size)) ∨ (c = 1 ∧ base.size ≤ 3000 ∧ s.size ≤ 3000 ∧ (Mg.schOf base.data.toList = 0 ∨ Mg.res base.data.toList s.data.toList = none))))) := by
  by_cases h : 3000 < base.size ∨ 3000 < s.size
  · exact ⟨[], 2, fun w => url_Resolve_long base s w h, .inr ⟨rfl, .inl ⟨rfl, h⟩⟩⟩
  have hb : base.size ≤ 3000 := by omega
  have hs : s.size ≤ 3000 := by omega
  by_cases h0 : Mg.schOf base.data.toList = 0
  · exact ⟨[], 1, fun w => url_Resolve_bare base s w hb hs h0, .inr ⟨rfl, .inr ⟨rfl, hb, hs, .inl h0⟩⟩⟩
  cases hj : Mg.joinOk (Mg.resU (Mg.split base.data.toList) (Mg.split s.data.toList)) with
  | false => exact ⟨[], 1, fun w => url_Resolve_no base s w hb hs h0 hj, .inr ⟨rfl, .inr ⟨rfl, hb, hs, .inr (by simp [Mg.res, hj])⟩⟩⟩
  | true => exact ⟨_, 0, fun w => url_Resolve_ok base s w hb hs h0 hj, .inl ⟨rfl, hb, hs, h0, by simp [Mg.res, hj]⟩⟩

set_option maxHeartbeats 1000000 in
set_option maxRecDepth 100000 in
theorem back_long (s base : ByteArray) (w : World) (hs : 3000 < s.size) :
    Calls Try.prog 4 #[.string s, .string base] w fun e w' => e = .returned (.bool true) ∧ Below w.heap.size w w' := by
  go_enter Try.func4, Try.ntmps4
  go_wp2_with fail
  refine (url_Split_long s _ hs).mono ?_
  rintro e w1 ⟨rfl, hb1⟩
  unfold uVal Mg.nilU
  go_wp2_with fail
  change Calls _ _ #[] (w1.alloc (.cells (uCells Mg.nilU) 23)) _
  have hbk := Blk.new w1 23 (uCells Mg.nilU)
  have hbl := hb1.alloc hb1.size (.cells (uCells Mg.nilU) 23)
  generalize w1.alloc (.cells (uCells Mg.nilU) 23) = w2 at hbk hbl ⊢
  generalize w1.heap.size = B at hbk ⊢
  refine (law_urlBegun _).mono ?_
  rintro e w3 ⟨rfl, hb3⟩
  have k3 := hbk.below hb3 hbk.lt
  have l3 := hbl.trans (hb3.mono hbl.size)
  clear hb1 hbk hbl hb3
  have c0 : w3.cell? ⟨B, 0, none⟩ = some (.string (st [])) := k3.cell 0
  have c1 : w3.cell? ⟨B, 1, none⟩ = some (.string (st [])) := k3.cell 1
  have c2 : w3.cell? ⟨B, 2, none⟩ = some (.string (st [])) := k3.cell 2
  have c3 : w3.cell? ⟨B, 3, none⟩ = some (.string (st [])) := k3.cell 3
  have c4 : w3.cell? ⟨B, 4, none⟩ = some (.string (st [])) := k3.cell 4
  have c5 : w3.cell? ⟨B, 5, none⟩ = some (.bool false) := k3.cell 5
  have c6 : w3.cell? ⟨B, 6, none⟩ = some (.bool false) := k3.cell 6
  have c7 : w3.cell? ⟨B, 7, none⟩ = some (.bool false) := k3.cell 7
  have c8 : w3.cell? ⟨B, 8, none⟩ = some (.bool false) := k3.cell 8
  have hst : (st []).toList = [] := Lib.toList_data _
  go_wp2_with fail
  go_ret
  exact ⟨rfl, l3⟩

theorem join_any (s : ByteArray) (w : World) (hs : s.size ≤ 3000) : Calls Try.prog 8 #[uVal (Mg.split s.data.toList)] w fun e w' => e = .returned (.tuple #[.string s, .int .i64 0]) ∧ Below w.heap.size w w' := by
  have hl := split_le s.data.toList
  have hn : s.data.toList.length = s.size := bs_len s
  have h := url_Join_yes (Mg.split s.data.toList) w (by omega) (by simp [Mg.joinOk, Mg.join_split])
  rwa [Mg.join_split, st_bs] at h
theorem dots_again (s : ByteArray) (w : World) (hs : s.size ≤ 3000) : Calls Try.prog 9 #[.string (st (Mg.dots s.data.toList))] w fun e w' => e = .returned (.tuple #[.string (st (Mg.dots s.data.toList)), .int .i64 0]) ∧ Below w.heap.size w w' := by
  have hl := Mg.dots_len s.data.toList
  have hn : s.data.toList.length = s.size := bs_len s
  have h := url_Dots_ok (st (Mg.dots s.data.toList)) w (by rw [st_size]; omega)
  rwa [bs_st, Mg.dots_dots] at h

set_option maxHeartbeats 1000000 in
set_option maxRecDepth 100000 in
theorem back_ok (s base : ByteArray) (w : World) (hs : s.size ≤ 3000) :
    Calls Try.prog 4 #[.string s, .string base] w fun e w' => e = .returned (.bool true) ∧ Below w.heap.size w w' := by
  have hJ := fun W => join_any s W hs
  have hS := fun W => url_Split_ok s W hs
  have hD := fun W => url_Dots_ok s W hs
  have hE := fun W => dots_again s W hs
  have hdl : (st (Mg.dots s.data.toList)).size ≤ s.size := by
    have hl := Mg.dots_len s.data.toList
    have hn : s.data.toList.length = s.size := bs_len s
    rw [st_size]; omega
  generalize st (Mg.dots s.data.toList) = d at hD hE hdl
  generalize Mg.split s.data.toList = u at hJ hS
  obtain ⟨r, c, hR, hc⟩ := url_Resolve_any base s
  have HJ := Lib.hid hJ
  have HS := Lib.hid hS
  have HD := Lib.hid hD
  have HE := Lib.hid hE
  have HR := Lib.hid hR
  have HC := Lib.hid hc
  clear hJ hS hD hE hR hc
  go_enter Try.func4, Try.ntmps4
  go_wp2_with fail
  refine (HS.out _).mono ?_
  rintro e w1 ⟨rfl, hb1⟩
  unfold uVal at *
  go_wp2_with fail
  change Calls _ _ #[] (w1.alloc (.cells (uCells u) 23)) _
  have hbk := Blk.new w1 23 (uCells u)
  have hbl := hb1.alloc hb1.size (.cells (uCells u) 23)
  generalize w1.alloc (.cells (uCells u) 23) = w2 at hbk hbl ⊢
  generalize w1.heap.size = B at hbk ⊢
  refine (law_urlBegun _).mono ?_
  rintro e w3 ⟨rfl, hb3⟩
  have k3 := hbk.below hb3 hbk.lt
  have l3 := hbl.trans (hb3.mono hbl.size)
  clear hb1 hbk hbl hb3
  have c0 : w3.cell? ⟨B, 0, none⟩ = some (.string (st u.sch)) := k3.cell 0
  have c1 : w3.cell? ⟨B, 1, none⟩ = some (.string (st u.au)) := k3.cell 1
  have c2 : w3.cell? ⟨B, 2, none⟩ = some (.string (st u.pa)) := k3.cell 2
  have c3 : w3.cell? ⟨B, 3, none⟩ = some (.string (st u.qu)) := k3.cell 3
  have c4 : w3.cell? ⟨B, 4, none⟩ = some (.string (st u.fr)) := k3.cell 4
  have c5 : w3.cell? ⟨B, 5, none⟩ = some (.bool u.hs) := k3.cell 5
  have c6 : w3.cell? ⟨B, 6, none⟩ = some (.bool u.ha) := k3.cell 6
  have c7 : w3.cell? ⟨B, 7, none⟩ = some (.bool u.hq) := k3.cell 7
  have c8 : w3.cell? ⟨B, 8, none⟩ = some (.bool u.hf) := k3.cell 8
  go_wp2_with fail
  refine (HJ.out _).mono ?_
  rintro e w4 ⟨rfl, hb4⟩
  have l4 := l3.trans (hb4.mono l3.size)
  clear c0 c1 c2 c3 c4 c5 c6 c7 c8 k3 l3 hb4
  go_wp2_with fail
  refine (HD.out _).mono ?_
  rintro e w5 ⟨rfl, hb5⟩
  have l5 := l4.trans (hb5.mono l4.size)
  clear l4 hb5
  go_wp2_with fail
  refine (HE.out _).mono ?_
  rintro e w6 ⟨rfl, hb6⟩
  have l6 := l5.trans (hb6.mono l5.size)
  clear l5 hb6
  go_wp2_with fail
  refine (HR.out _).mono ?_
  rintro e w7 ⟨rfl, hb7⟩
  have l7 := l6.trans (hb7.mono l6.size)
  clear l6 hb7
  rcases HC.out with ⟨rfl, hb, _, h0, hr⟩ | ⟨rfl, ⟨rfl, _⟩ | ⟨rfl, _⟩⟩
  · by_cases hrl : (st r).size ≤ 3000
    · have ⟨hh, hg⟩ := Mg.res_again _ _ _ hr
      obtain ⟨q, c, hQ, hq⟩ := url_Resolve_any base (st r)
      rw [bs_st] at hq
      have e1 : q = r ∧ c = 0 := by
        rcases hq with ⟨rfl, _, _, _, h⟩ | ⟨_, ⟨_, h⟩ | ⟨_, _, _, h⟩⟩
        · exact ⟨by rw [hg] at h; injection h with h; exact h.symm, rfl⟩
        · omega
        · rcases h with h | h
          · exact absurd h h0
          · rw [hg] at h; cases h
      obtain ⟨rfl, rfl⟩ := e1
      have hT := fun W => url_Split_ok (st q) W hrl
      rw [bs_st] at hT
      generalize Mg.split q = v at hT hh
      have HT := Lib.hid hT
      have HQ := Lib.hid hQ
      have HH := Lib.hid hh
      clear hT hQ hh hq hg hr HR HC HE HD HS HJ h0
      go_wp2_with fail
      refine (HT.out _).mono ?_
      rintro e w8 ⟨rfl, hb8⟩
      have l8 := l7.trans (hb8.mono l7.size)
      unfold uVal at *
      rw [HH.out]
      go_wp2_with fail
      change Calls _ _ #[.string base, .string (st q)] (w8.alloc (.cells #[.string (st v.sch), .string (st v.au), .string (st v.pa), .string (st v.qu), .string (st v.fr), .bool true, .bool v.ha, .bool v.hq, .bool v.hf] 23)) _
      have vbk := Blk.new w8 23 #[.string (st v.sch), .string (st v.au), .string (st v.pa), .string (st v.qu), .string (st v.fr), .bool true, .bool v.ha, .bool v.hq, .bool v.hf]
      have vbl := l8.alloc l8.size (.cells #[.string (st v.sch), .string (st v.au), .string (st v.pa), .string (st v.qu), .string (st v.fr), .bool true, .bool v.ha, .bool v.hq, .bool v.hf] 23)
      generalize w8.alloc (.cells #[.string (st v.sch), .string (st v.au), .string (st v.pa), .string (st v.qu), .string (st v.fr), .bool true, .bool v.ha, .bool v.hq, .bool v.hf] 23) = w9 at vbk vbl ⊢
      generalize w8.heap.size = V at vbk ⊢
      refine (HQ.out _).mono ?_
      rintro e wa ⟨rfl, hba⟩
      have ka := vbk.below hba vbk.lt
      have la := vbl.trans (hba.mono vbl.size)
      have c5 : wa.cell? ⟨V, 5, none⟩ = some (.bool true) := ka.cell 5
      clear hba vbk vbl hb8 l8
      go_wp2_with fail
      go_ret
      exact ⟨rfl, la⟩
    · have hrl2 : 3000 < (st r).size := by omega
      clear hr HR HC HE HD HS HJ h0 hrl
      go_wp2_with fail
      go_ret
      exact ⟨rfl, l7⟩
  · clear HR HC HE HD HS HJ
    have hst : (st []).toList = [] := Lib.toList_data _
    go_wp2_with fail
    go_ret
    exact ⟨rfl, l7⟩
  · clear HR HC HE HD HS HJ
    have hst : (st []).toList = [] := Lib.toList_data _
    go_wp2_with fail
    go_ret
    exact ⟨rfl, l7⟩

theorem law_UrlBack (s base : ByteArray) (w : World) :
    Calls Try.prog 4 #[.string s, .string base] w fun e w' => e = .returned (.bool true) ∧ Below w.heap.size w w' := by
  by_cases h : 3000 < s.size
  · exact back_long s base w h
  · exact back_ok s base w (by omega)
end Go.Proofs.Ytpagegjhihijcaa
