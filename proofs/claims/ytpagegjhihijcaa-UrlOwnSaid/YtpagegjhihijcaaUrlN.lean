/- The law that a link with a scheme is itself in the light of any base: UrlOwn answers true, whatever it is handed. -/
import Derived.Test.YtpagegjhihijcaaUrlM
import Derived.Deep.CutBlock
namespace Go.Proofs.Ytpagegjhihijcaa
open Go.RowKit

/-- Split in one sentence. -/
theorem url_Split_any (s : ByteArray) : ∃ (u : Mg.U) (c : Int), (∀ w : World, Calls Try.prog 7 #[.string s] w fun e w' => e = .returned (.tuple #[uVal u, .int .i64 c]) ∧ Below w.heap.size w w') ∧ ((c = 0 ∧ s.size ≤ 3000 ∧ u = Mg.split s.data.toList) ∨ (c = 2 ∧ 3000 < s.size ∧ u = Mg.nilU)) := by
  by_cases h : 3000 < s.size
  · exact ⟨_, 2, fun w => url_Split_long s w h, .inr ⟨rfl, h, rfl⟩⟩
  · exact ⟨_, 0, fun w => url_Split_ok s w (by omega), .inl ⟨rfl, by omega, rfl⟩⟩
theorem own_same {base other s : ByteArray} {r q : List UInt8} {c d : Int} (hu : (Mg.split s.data.toList).hs = true)
    (hc : (c = 0 ∧ base.size ≤ 3000 ∧ s.size ≤ 3000 ∧ Mg.schOf base.data.toList ≠ 0 ∧ Mg.res base.data.toList s.data.toList = some r) ∨ (r = [] ∧ ((c = 2 ∧ (3000 < base.size ∨ 3000 < s.size)) ∨ (c = 1 ∧ base.size ≤ 3000 ∧ s.size ≤ 3000 ∧ (Mg.schOf base.data.toList = 0 ∨ Mg.res base.data.toList s.data.toList = none)))))
    (hd : (d = 0 ∧ other.size ≤ 3000 ∧ s.size ≤ 3000 ∧ Mg.schOf other.data.toList ≠ 0 ∧ Mg.res other.data.toList s.data.toList = some q) ∨ (q = [] ∧ ((d = 2 ∧ (3000 < other.size ∨ 3000 < s.size)) ∨ (d = 1 ∧ other.size ≤ 3000 ∧ s.size ≤ 3000 ∧ (Mg.schOf other.data.toList = 0 ∨ Mg.res other.data.toList s.data.toList = none))))) :
    (c = 0 ∧ d = 0 ∧ r = q) ∨ c = 1 ∨ c = 2 ∨ (c = 0 ∧ (d = 1 ∨ d = 2)) := by
  rcases hc with ⟨rfl, _, _, _, h⟩ | ⟨_, ⟨rfl, _⟩ | ⟨rfl, _⟩⟩
  · rcases hd with ⟨rfl, _, _, _, h'⟩ | ⟨_, ⟨rfl, _⟩ | ⟨rfl, _⟩⟩
    · rw [Mg.res_own base.data.toList other.data.toList s.data.toList hu, h'] at h
      injection h with h
      exact .inl ⟨rfl, rfl, h.symm⟩
    · exact .inr (.inr (.inr ⟨rfl, .inr rfl⟩))
    · exact .inr (.inr (.inr ⟨rfl, .inl rfl⟩))
  · exact .inr (.inr (.inl rfl))
  · exact .inr (.inl rfl)

theorem hs_iff (s : List UInt8) : (Mg.split s).hs = decide (Mg.schOf s ≠ 0) := rfl
theorem own_tail (base : ByteArray) (hb : base.size ≤ 3000) (h0 : (Mg.split base.data.toList).hs = true) : ∃ (r : List UInt8) (c : Int),
    (∀ w : World, Calls Try.prog 8 #[uVal { Mg.split base.data.toList with pa := Mg.dots (Mg.split base.data.toList).pa, fr := [], hf := false }] w fun e w' => e = .returned (.tuple #[.string (st r), .int .i64 c]) ∧ Below w.heap.size w w') ∧
    (∀ w : World, Calls Try.prog 10 #[.string base, .string (st [])] w fun e w' => e = .returned (.tuple #[.string (st r), .int .i64 c]) ∧ Below w.heap.size w w') := by
  have hsch : Mg.schOf base.data.toList ≠ 0 := by rw [hs_iff] at h0; exact of_decide_eq_true h0
  have hl := split_le base.data.toList
  have hn : base.data.toList.length = base.size := bs_len base
  have hd := Mg.dots_len (Mg.split base.data.toList).pa
  have e := Mg.resU_nil _ h0
  have hle : ({ Mg.split base.data.toList with pa := Mg.dots (Mg.split base.data.toList).pa, fr := [], hf := false } : Mg.U).sch.length + ({ Mg.split base.data.toList with pa := Mg.dots (Mg.split base.data.toList).pa, fr := [], hf := false } : Mg.U).au.length + ({ Mg.split base.data.toList with pa := Mg.dots (Mg.split base.data.toList).pa, fr := [], hf := false } : Mg.U).pa.length + ({ Mg.split base.data.toList with pa := Mg.dots (Mg.split base.data.toList).pa, fr := [], hf := false } : Mg.U).qu.length + ({ Mg.split base.data.toList with pa := Mg.dots (Mg.split base.data.toList).pa, fr := [], hf := false } : Mg.U).fr.length ≤ 1048576 := by
    simp only [List.length_nil]
    omega
  have e2 : Mg.resU (Mg.split base.data.toList) (Mg.split (st []).data.toList) = { Mg.split base.data.toList with pa := Mg.dots (Mg.split base.data.toList).pa, fr := [], hf := false } := by
    rw [show (st []).data.toList = [] from rfl, Mg.split_nil]; exact e
  cases hj : Mg.joinOk { Mg.split base.data.toList with pa := Mg.dots (Mg.split base.data.toList).pa, fr := [], hf := false } with
  | false =>
    exact ⟨[], 1, fun w => url_Join_no _ w hle hj, fun w => url_Resolve_no base (st []) w hb (by decide) hsch (by rw [e2]; exact hj)⟩
  | true =>
    refine ⟨_, 0, fun w => url_Join_yes _ w hle hj, fun w => ?_⟩
    have h := url_Resolve_ok base (st []) w hb (by decide) hsch (by rw [e2]; exact hj)
    rwa [e2] at h

theorem base_any (base : ByteArray) :
    (∃ v : Mg.U, ∀ w : World, Calls Try.prog 7 #[.string base] w fun e w' => e = .returned (.tuple #[uVal v, .int .i64 2]) ∧ Below w.heap.size w w') ∨
    (∃ v : Mg.U, v.hs = false ∧ ∀ w : World, Calls Try.prog 7 #[.string base] w fun e w' => e = .returned (.tuple #[uVal v, .int .i64 0]) ∧ Below w.heap.size w w') ∨
    (∃ (v : Mg.U) (d r : List UInt8) (c : Int), v.hs = true ∧ (∀ w : World, Calls Try.prog 7 #[.string base] w fun e w' => e = .returned (.tuple #[uVal v, .int .i64 0]) ∧ Below w.heap.size w w') ∧
      (∀ w : World, Calls Try.prog 9 #[.string (st v.pa)] w fun e w' => e = .returned (.tuple #[.string (st d), .int .i64 0]) ∧ Below w.heap.size w w') ∧
      (∀ w : World, Calls Try.prog 8 #[uVal { v with pa := d, fr := [], hf := false }] w fun e w' => e = .returned (.tuple #[.string (st r), .int .i64 c]) ∧ Below w.heap.size w w') ∧
      (∀ w : World, Calls Try.prog 10 #[.string base, .string (st [])] w fun e w' => e = .returned (.tuple #[.string (st r), .int .i64 c]) ∧ Below w.heap.size w w')) := by
  obtain ⟨v, c, hV, ⟨rfl, hb, rfl⟩ | ⟨rfl, _⟩⟩ := url_Split_any base
  · cases hh : (Mg.split base.data.toList).hs with
    | false => exact .inr (.inl ⟨_, hh, hV⟩)
    | true =>
      obtain ⟨r, c, hJ, hR⟩ := own_tail base hb hh
      have hl := split_le base.data.toList
      have hn : base.data.toList.length = base.size := bs_len base
      exact .inr (.inr ⟨_, _, r, c, hh, hV, fun w => url_Dots_ok (st (Mg.split base.data.toList).pa) w (by rw [st_size]; omega), hJ, hR⟩)
  · exact .inl ⟨v, hV⟩

set_option maxHeartbeats 1000000 in
set_option maxRecDepth 100000 in
theorem law_UrlOwn (base other s : ByteArray) (w : World) :
    Calls Try.prog 5 #[.string base, .string other, .string s] w fun e w' => e = .returned (.bool true) ∧ Below w.heap.size w w' := by
  have HB := Lib.hid (base_any base)
  obtain ⟨u, c, hS, hu⟩ := url_Split_any s
  have HS := Lib.hid hS
  have HU := Lib.hid hu
  clear hS hu
  go_enter Try.func5, Try.ntmps5
  go_wp2_with fail
  refine (law_urlBegun _).mono ?_
  rintro e w1 ⟨rfl, hb1⟩
  go_wp2_with fail
  refine (HS.out _).mono ?_
  rintro e w2 ⟨rfl, hb2⟩
  have l2 := hb1.trans (hb2.mono hb1.size)
  clear hb1 hb2
  unfold uVal at *
  have key : u.hs = true → c = 0 → u = Mg.split s.data.toList := by
    rcases HU.out with ⟨_, _, h⟩ | ⟨h, _⟩
    · exact fun _ _ => h
    · intro _ h2; omega
  have h2 : c = 0 ∨ c = 2 := by
    rcases HU.out with ⟨h, _⟩ | ⟨h, _⟩
    · exact .inl h
    · exact .inr h
  have two : (c = 0 ∧ u.hs = true) ∨ (c = 0 ∧ u.hs = false) ∨ c = 2 := by
    rcases h2 with h | h
    · cases hh : u.hs
      · exact .inr (.inl ⟨h, rfl⟩)
      · exact .inl ⟨h, rfl⟩
    · exact .inr (.inr h)
  clear h2 HU HS
  rcases two with ⟨rfl, hh⟩ | ⟨rfl, hh⟩ | rfl
  · have hus := key hh rfl
    obtain ⟨r, c, hR, hc⟩ := url_Resolve_any base s
    obtain ⟨q, d, hQ, hd⟩ := url_Resolve_any other s
    have four := own_same (by rw [← hus]; exact hh) hc hd
    have HR := Lib.hid hR
    have HQ := Lib.hid hQ
    have HF := Lib.hid four
    have HH := Lib.hid hh
    clear hR hQ hc hd four key hus hh
    rw [HH.out]
    go_wp2_with fail
    have l3 := l2.alloc l2.size (.cells #[.string (st u.sch), .string (st u.au), .string (st u.pa), .string (st u.qu), .string (st u.fr), .bool true, .bool u.ha, .bool u.hq, .bool u.hf] 23)
    refine (HR.out _).mono ?_
    rintro e w4 ⟨rfl, hb4⟩
    have l4 := l3.trans (hb4.mono l3.size)
    clear l2 l3 hb4
    go_wp2_with fail
    refine (HQ.out _).mono ?_
    rintro e w5 ⟨rfl, hb5⟩
    have l5 := l4.trans (hb5.mono l4.size)
    clear l4 hb5 HR HQ
    rcases HF.out with ⟨rfl, rfl, rfl⟩ | rfl | rfl | ⟨rfl, rfl | rfl⟩
    all_goals clear HF HH
    all_goals go_wp2_with fail
    all_goals
      rcases HB.out with ⟨v, hV⟩ | ⟨v, hh, hV⟩ | ⟨v, d, r, c, hh, hV, hD, hJ, hR⟩
      · have HV := Lib.hid hV
        clear hV HB
        refine (HV.out _).mono ?_
        rintro e w6 ⟨rfl, hb6⟩
        have l6 := l5.trans (hb6.mono l5.size)
        unfold uVal at *
        clear l5 hb6
        go_wp2_with fail
        go_ret
        exact ⟨rfl, l6.alloc l6.size _⟩
      · have HV := Lib.hid hV
        clear hV HB
        refine (HV.out _).mono ?_
        rintro e w6 ⟨rfl, hb6⟩
        have l6 := l5.trans (hb6.mono l5.size)
        unfold uVal at *
        rw [hh]
        clear l5 hb6 hh
        go_wp2_with fail
        go_ret
        exact ⟨rfl, l6.alloc l6.size _⟩
      · have HV := Lib.hid hV
        have HD := Lib.hid hD
        have HJ := Lib.hid hJ
        have HR := Lib.hid hR
        clear hV hD hJ hR HB
        refine (HV.out _).mono ?_
        rintro e w6 ⟨rfl, hb6⟩
        have l6 := l5.trans (hb6.mono l5.size)
        unfold uVal at *
        rw [hh] at *
        clear l5 hb6 hh
        go_wp2_with fail
        change Calls _ _ #[.string (st v.pa)] (w6.alloc (.cells #[.string (st v.sch), .string (st v.au), .string (st v.pa), .string (st v.qu), .string (st v.fr), .bool true, .bool v.ha, .bool v.hq, .bool v.hf] 23)) _
        have vb := Blk.new w6 23 #[.string (st v.sch), .string (st v.au), .string (st v.pa), .string (st v.qu), .string (st v.fr), .bool true, .bool v.ha, .bool v.hq, .bool v.hf]
        have l7 := l6.alloc l6.size (.cells #[.string (st v.sch), .string (st v.au), .string (st v.pa), .string (st v.qu), .string (st v.fr), .bool true, .bool v.ha, .bool v.hq, .bool v.hf] 23)
        have hV := l6.size
        generalize w6.alloc (.cells #[.string (st v.sch), .string (st v.au), .string (st v.pa), .string (st v.qu), .string (st v.fr), .bool true, .bool v.ha, .bool v.hq, .bool v.hf] 23) = w7 at vb l7 ⊢
        generalize w6.heap.size = V at vb hV ⊢
        clear l6
        refine (HD.out _).mono ?_
        rintro e w8 ⟨rfl, hb8⟩
        have kb := vb.below hb8 vb.lt
        have l8 := l7.trans (hb8.mono l7.size)
        clear l7 hb8 vb
        have c0 : w8.cell? ⟨V, 0, none⟩ = some (.string (st v.sch)) := kb.cell 0
        have c1 : w8.cell? ⟨V, 1, none⟩ = some (.string (st v.au)) := kb.cell 1
        have c2 : w8.cell? ⟨V, 2, none⟩ = some (.string (st v.pa)) := kb.cell 2
        have c3 : w8.cell? ⟨V, 3, none⟩ = some (.string (st v.qu)) := kb.cell 3
        have c4 : w8.cell? ⟨V, 4, none⟩ = some (.string (st v.fr)) := kb.cell 4
        have c5 : w8.cell? ⟨V, 5, none⟩ = some (.bool true) := kb.cell 5
        have c6 : w8.cell? ⟨V, 6, none⟩ = some (.bool v.ha) := kb.cell 6
        have c7 : w8.cell? ⟨V, 7, none⟩ = some (.bool v.hq) := kb.cell 7
        have c8 : w8.cell? ⟨V, 8, none⟩ = some (.bool v.hf) := kb.cell 8
        have y : ∀ i, w8.frozen? ⟨V, i, none⟩ = false := kb.frozen
        go_wp2_with fail
        have l9 := show Below w.heap.size w (((w8.setCell ⟨V, 2, none⟩ (.string (st d))).setCell ⟨V, 4, none⟩ (.string (st []))).setCell ⟨V, 8, none⟩ (.bool false)) from ((l8.setCell hV _).setCell hV _).setCell hV _
        refine (HJ.out _).mono ?_
        rintro e wa ⟨rfl, hba⟩
        have la := l9.trans (hba.mono l9.size)
        clear l8 l9 hba kb c0 c1 c2 c3 c4 c5 c6 c7 c8 y
        go_wp2_with fail
        refine (HR.out _).mono ?_
        rintro e wb ⟨rfl, hbb⟩
        have lb := la.trans (hbb.mono la.size)
        clear la hbb
        go_wp2_with fail
        go_ret
        exact ⟨by simp, lb⟩
  · rw [hh]
    clear key hh
    go_wp2_with fail
    have l5 := l2.alloc l2.size (.cells #[.string (st u.sch), .string (st u.au), .string (st u.pa), .string (st u.qu), .string (st u.fr), .bool false, .bool u.ha, .bool u.hq, .bool u.hf] 23)
    generalize w2.alloc (.cells #[.string (st u.sch), .string (st u.au), .string (st u.pa), .string (st u.qu), .string (st u.fr), .bool false, .bool u.ha, .bool u.hq, .bool u.hf] 23) = w5 at l5 ⊢
    clear l2
    rcases HB.out with ⟨v, hV⟩ | ⟨v, hh, hV⟩ | ⟨v, d, r, c, hh, hV, hD, hJ, hR⟩
    · have HV := Lib.hid hV
      clear hV HB
      refine (HV.out _).mono ?_
      rintro e w6 ⟨rfl, hb6⟩
      have l6 := l5.trans (hb6.mono l5.size)
      unfold uVal at *
      clear l5 hb6
      go_wp2_with fail
      go_ret
      exact ⟨rfl, l6.alloc l6.size _⟩
    · have HV := Lib.hid hV
      clear hV HB
      refine (HV.out _).mono ?_
      rintro e w6 ⟨rfl, hb6⟩
      have l6 := l5.trans (hb6.mono l5.size)
      unfold uVal at *
      rw [hh]
      clear l5 hb6 hh
      go_wp2_with fail
      go_ret
      exact ⟨rfl, l6.alloc l6.size _⟩
    · have HV := Lib.hid hV
      have HD := Lib.hid hD
      have HJ := Lib.hid hJ
      have HR := Lib.hid hR
      clear hV hD hJ hR HB
      refine (HV.out _).mono ?_
      rintro e w6 ⟨rfl, hb6⟩
      have l6 := l5.trans (hb6.mono l5.size)
      unfold uVal at *
      rw [hh] at *
      clear l5 hb6 hh
      go_wp2_with fail
      change Calls _ _ #[.string (st v.pa)] (w6.alloc (.cells #[.string (st v.sch), .string (st v.au), .string (st v.pa), .string (st v.qu), .string (st v.fr), .bool true, .bool v.ha, .bool v.hq, .bool v.hf] 23)) _
      have vb := Blk.new w6 23 #[.string (st v.sch), .string (st v.au), .string (st v.pa), .string (st v.qu), .string (st v.fr), .bool true, .bool v.ha, .bool v.hq, .bool v.hf]
      have l7 := l6.alloc l6.size (.cells #[.string (st v.sch), .string (st v.au), .string (st v.pa), .string (st v.qu), .string (st v.fr), .bool true, .bool v.ha, .bool v.hq, .bool v.hf] 23)
      have hV := l6.size
      generalize w6.alloc (.cells #[.string (st v.sch), .string (st v.au), .string (st v.pa), .string (st v.qu), .string (st v.fr), .bool true, .bool v.ha, .bool v.hq, .bool v.hf] 23) = w7 at vb l7 ⊢
      generalize w6.heap.size = V at vb hV ⊢
      clear l6
      refine (HD.out _).mono ?_
      rintro e w8 ⟨rfl, hb8⟩
      have kb := vb.below hb8 vb.lt
      have l8 := l7.trans (hb8.mono l7.size)
      clear l7 hb8 vb
      have c0 : w8.cell? ⟨V, 0, none⟩ = some (.string (st v.sch)) := kb.cell 0
      have c1 : w8.cell? ⟨V, 1, none⟩ = some (.string (st v.au)) := kb.cell 1
      have c2 : w8.cell? ⟨V, 2, none⟩ = some (.string (st v.pa)) := kb.cell 2
      have c3 : w8.cell? ⟨V, 3, none⟩ = some (.string (st v.qu)) := kb.cell 3
      have c4 : w8.cell? ⟨V, 4, none⟩ = some (.string (st v.fr)) := kb.cell 4
      have c5 : w8.cell? ⟨V, 5, none⟩ = some (.bool true) := kb.cell 5
      have c6 : w8.cell? ⟨V, 6, none⟩ = some (.bool v.ha) := kb.cell 6
      have c7 : w8.cell? ⟨V, 7, none⟩ = some (.bool v.hq) := kb.cell 7
      have c8 : w8.cell? ⟨V, 8, none⟩ = some (.bool v.hf) := kb.cell 8
      have y : ∀ i, w8.frozen? ⟨V, i, none⟩ = false := kb.frozen
      go_wp2_with fail
      have l9 := show Below w.heap.size w (((w8.setCell ⟨V, 2, none⟩ (.string (st d))).setCell ⟨V, 4, none⟩ (.string (st []))).setCell ⟨V, 8, none⟩ (.bool false)) from ((l8.setCell hV _).setCell hV _).setCell hV _
      refine (HJ.out _).mono ?_
      rintro e wa ⟨rfl, hba⟩
      have la := l9.trans (hba.mono l9.size)
      clear l8 l9 hba kb c0 c1 c2 c3 c4 c5 c6 c7 c8 y
      go_wp2_with fail
      refine (HR.out _).mono ?_
      rintro e wb ⟨rfl, hbb⟩
      have lb := la.trans (hbb.mono la.size)
      clear la hbb
      go_wp2_with fail
      go_ret
      exact ⟨by simp, lb⟩
  · clear key
    go_wp2_with fail
    have l5 := l2.alloc l2.size (.cells #[.string (st u.sch), .string (st u.au), .string (st u.pa), .string (st u.qu), .string (st u.fr), .bool u.hs, .bool u.ha, .bool u.hq, .bool u.hf] 23)
    generalize w2.alloc (.cells #[.string (st u.sch), .string (st u.au), .string (st u.pa), .string (st u.qu), .string (st u.fr), .bool u.hs, .bool u.ha, .bool u.hq, .bool u.hf] 23) = w5 at l5 ⊢
    clear l2
    rcases HB.out with ⟨v, hV⟩ | ⟨v, hh, hV⟩ | ⟨v, d, r, c, hh, hV, hD, hJ, hR⟩
    · have HV := Lib.hid hV
      clear hV HB
      refine (HV.out _).mono ?_
      rintro e w6 ⟨rfl, hb6⟩
      have l6 := l5.trans (hb6.mono l5.size)
      unfold uVal at *
      clear l5 hb6
      go_wp2_with fail
      go_ret
      exact ⟨rfl, l6.alloc l6.size _⟩
    · have HV := Lib.hid hV
      clear hV HB
      refine (HV.out _).mono ?_
      rintro e w6 ⟨rfl, hb6⟩
      have l6 := l5.trans (hb6.mono l5.size)
      unfold uVal at *
      rw [hh]
      clear l5 hb6 hh
      go_wp2_with fail
      go_ret
      exact ⟨rfl, l6.alloc l6.size _⟩
    · have HV := Lib.hid hV
      have HD := Lib.hid hD
      have HJ := Lib.hid hJ
      have HR := Lib.hid hR
      clear hV hD hJ hR HB
      refine (HV.out _).mono ?_
      rintro e w6 ⟨rfl, hb6⟩
      have l6 := l5.trans (hb6.mono l5.size)
      unfold uVal at *
      rw [hh] at *
      clear l5 hb6 hh
      go_wp2_with fail
      change Calls _ _ #[.string (st v.pa)] (w6.alloc (.cells #[.string (st v.sch), .string (st v.au), .string (st v.pa), .string (st v.qu), .string (st v.fr), .bool true, .bool v.ha, .bool v.hq, .bool v.hf] 23)) _
      have vb := Blk.new w6 23 #[.string (st v.sch), .string (st v.au), .string (st v.pa), .string (st v.qu), .string (st v.fr), .bool true, .bool v.ha, .bool v.hq, .bool v.hf]
      have l7 := l6.alloc l6.size (.cells #[.string (st v.sch), .string (st v.au), .string (st v.pa), .string (st v.qu), .string (st v.fr), .bool true, .bool v.ha, .bool v.hq, .bool v.hf] 23)
      have hV := l6.size
      generalize w6.alloc (.cells #[.string (st v.sch), .string (st v.au), .string (st v.pa), .string (st v.qu), .string (st v.fr), .bool true, .bool v.ha, .bool v.hq, .bool v.hf] 23) = w7 at vb l7 ⊢
      generalize w6.heap.size = V at vb hV ⊢
      clear l6
      refine (HD.out _).mono ?_
      rintro e w8 ⟨rfl, hb8⟩
      have kb := vb.below hb8 vb.lt
      have l8 := l7.trans (hb8.mono l7.size)
      clear l7 hb8 vb
      have c0 : w8.cell? ⟨V, 0, none⟩ = some (.string (st v.sch)) := kb.cell 0
      have c1 : w8.cell? ⟨V, 1, none⟩ = some (.string (st v.au)) := kb.cell 1
      have c2 : w8.cell? ⟨V, 2, none⟩ = some (.string (st v.pa)) := kb.cell 2
      have c3 : w8.cell? ⟨V, 3, none⟩ = some (.string (st v.qu)) := kb.cell 3
      have c4 : w8.cell? ⟨V, 4, none⟩ = some (.string (st v.fr)) := kb.cell 4
      have c5 : w8.cell? ⟨V, 5, none⟩ = some (.bool true) := kb.cell 5
      have c6 : w8.cell? ⟨V, 6, none⟩ = some (.bool v.ha) := kb.cell 6
      have c7 : w8.cell? ⟨V, 7, none⟩ = some (.bool v.hq) := kb.cell 7
      have c8 : w8.cell? ⟨V, 8, none⟩ = some (.bool v.hf) := kb.cell 8
      have y : ∀ i, w8.frozen? ⟨V, i, none⟩ = false := kb.frozen
      go_wp2_with fail
      have l9 := show Below w.heap.size w (((w8.setCell ⟨V, 2, none⟩ (.string (st d))).setCell ⟨V, 4, none⟩ (.string (st []))).setCell ⟨V, 8, none⟩ (.bool false)) from ((l8.setCell hV _).setCell hV _).setCell hV _
      refine (HJ.out _).mono ?_
      rintro e wa ⟨rfl, hba⟩
      have la := l9.trans (hba.mono l9.size)
      clear l8 l9 hba kb c0 c1 c2 c3 c4 c5 c6 c7 c8 y
      go_wp2_with fail
      refine (HR.out _).mono ?_
      rintro e wb ⟨rfl, hbb⟩
      have lb := la.trans (hbb.mono la.size)
      clear la hbb
      go_wp2_with fail
      go_ret
      exact ⟨by simp, lb⟩
end Go.Proofs.Ytpagegjhihijcaa
