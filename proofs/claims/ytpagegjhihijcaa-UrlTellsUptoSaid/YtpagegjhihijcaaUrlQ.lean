/- Contracts of the reference's words on links: JoinOf, DotsOf, IsSafe. Condition: all texts together at most 1048576 bytes. -/
import Derived.Test.YtpagegjhihijcaaUrlP
import Derived.Test.YtpagegjhihijcaaUrlH
namespace Go.Proofs.Ytpagegjhihijcaa
open Go.RowKit

/-- the text that JoinOf has after each part. -/
def jn1 (u : Mg.U) : List UInt8 := if u.hs then u.sch ++ [58] else []
def jn2 (u : Mg.U) : List UInt8 := jn1 u ++ if u.ha then [47, 47] ++ u.au else []
def jn3 (u : Mg.U) : List UInt8 := jn2 u ++ u.pa
def jn4 (u : Mg.U) : List UInt8 := jn3 u ++ if u.hq then [63] ++ u.qu else []
def jn5 (u : Mg.U) : List UInt8 := jn4 u ++ if u.hf then [35] ++ u.fr else []
theorem jn5_join (u : Mg.U) : jn5 u = Mg.join u := rfl
theorem jn_len (u : Mg.U) : (jn1 u).length ≤ u.sch.length + 1 ∧ (jn2 u).length ≤ (jn1 u).length + u.au.length + 2 ∧ (jn3 u).length = (jn2 u).length + u.pa.length ∧ (jn4 u).length ≤ (jn3 u).length + u.qu.length + 1 ∧ (jn5 u).length ≤ (jn4 u).length + u.fr.length + 1 := by
  refine ⟨?_, ?_, ?_, ?_, ?_⟩
  · unfold jn1; split <;> simp
  · unfold jn2; rw [List.length_append]; split <;> simp <;> omega
  · unfold jn3; rw [List.length_append]
  · unfold jn4; rw [List.length_append]; split <;> simp <;> omega
  · unfold jn5; rw [List.length_append]; split <;> simp <;> omega

set_option maxHeartbeats 1000000 in
theorem ref_JoinOf (u : Mg.U) (w : World) (hl : u.sch.length + u.au.length + u.pa.length + u.qu.length + u.fr.length ≤ 1048576) :
    Calls Try.prog 13 #[uVal u] w fun e w' => e = .returned (.tuple #[.string (st (Mg.join u)), .bool (Mg.joinOk u)]) ∧ Below w.heap.size w w' := by
  have hb := Blk.new w 23 (uCells u)
  have hbl := (Below.refl _ w).alloc (Nat.le_refl _) (.cells (uCells u) 23)
  obtain ⟨q1, q2, q3, q4, q5⟩ := jn_len u
  unfold uVal
  go_enter Try.func13, Try.ntmps13
  have m1 : ((st (jn1 u)).size : Int) ≤ 2097152 := by simp only [st_size]; omega
  have m2 : ((st (jn2 u)).size : Int) ≤ 2097152 := by simp only [st_size]; omega
  have m3 : ((st (jn3 u)).size : Int) ≤ 2097152 := by simp only [st_size]; omega
  have m4 : ((st (jn4 u)).size : Int) ≤ 2097152 := by simp only [st_size]; omega
  have m5 : ((st (jn5 u)).size : Int) ≤ 2097152 := by simp only [st_size]; omega
  have n1 : ((st u.sch).size : Int) ≤ 2097152 := by simp only [st_size]; omega
  have n2 : ((st u.au).size : Int) ≤ 2097152 := by simp only [st_size]; omega
  have n3 : ((st u.pa).size : Int) ≤ 2097152 := by simp only [st_size]; omega
  have n4 : ((st u.qu).size : Int) ≤ 2097152 := by simp only [st_size]; omega
  have n5 : ((st u.fr).size : Int) ≤ 2097152 := by simp only [st_size]; omega
  clear q1 q2 q3 q4 q5
  go_upto_region 2 with fail
  change Code.wp _ _ _ _ (w.alloc (.cells (uCells u) 23))
  generalize w.alloc (.cells (uCells u) 23) = w1 at hb hbl ⊢
  generalize Value.agg #[.string (st u.sch), .string (st u.au), .string (st u.pa), .string (st u.qu), .string (st u.fr), .bool u.hs, .bool u.ha, .bool u.hq, .bool u.hf] = v0
  have d0 : w1.cell? ⟨w.heap.size, 0, none⟩ = some (.string (st u.sch)) := hb.cell 0
  have d1 : w1.cell? ⟨w.heap.size, 1, none⟩ = some (.string (st u.au)) := hb.cell 1
  have d2 : w1.cell? ⟨w.heap.size, 2, none⟩ = some (.string (st u.pa)) := hb.cell 2
  have d3 : w1.cell? ⟨w.heap.size, 3, none⟩ = some (.string (st u.qu)) := hb.cell 3
  have d4 : w1.cell? ⟨w.heap.size, 4, none⟩ = some (.string (st u.fr)) := hb.cell 4
  have d5 : w1.cell? ⟨w.heap.size, 5, none⟩ = some (.bool u.hs) := hb.cell 5
  have d6 : w1.cell? ⟨w.heap.size, 6, none⟩ = some (.bool u.ha) := hb.cell 6
  have d7 : w1.cell? ⟨w.heap.size, 7, none⟩ = some (.bool u.hq) := hb.cell 7
  have d8 : w1.cell? ⟨w.heap.size, 8, none⟩ = some (.bool u.hf) := hb.cell 8
  go_upto_if 6 with fail
  go_cut [4] (fun v wx => v = .string (st (jn1 u)) ∧ w1 = wx)
  case first =>
    have e : jn1 u = if u.hs then u.sch ++ [58] else [] := rfl
    have E := Lib.hid e
    clear e
    cases hh : u.hs with
    | true =>
      have HH := Lib.hid hh
      clear hh
      go_wp2_with fail
      go_meet
      case rel => exact ⟨by rw [E.out, HH.out, if_pos rfl, app_st]; rfl, rfl⟩
    | false =>
      have HH := Lib.hid hh
      clear hh
      go_wp2_with fail
      go_meet
      case rel => exact ⟨by rw [E.out, HH.out]; rfl, rfl⟩
  case rest =>
    obtain ⟨rfl, rfl⟩ := hcut
    go_upto_if 11 with fail
    go_cut [4] (fun v wx => v = .string (st (jn2 u)) ∧ w1 = wx)
    case first =>
      have e : jn2 u = jn1 u ++ if u.ha then [47, 47] ++ u.au else [] := rfl
      have E := Lib.hid e
      clear e
      cases hh : u.ha with
      | true =>
        have HH := Lib.hid hh
        clear hh
        go_wp2_with fail
        go_meet
        case rel => exact ⟨by rw [E.out, HH.out, if_pos rfl, app_st, app_st]; rfl, rfl⟩
      | false =>
        have HH := Lib.hid hh
        clear hh
        go_wp2_with fail
        go_meet
        case rel => exact ⟨by rw [E.out, HH.out]; simp, rfl⟩
    case rest =>
      obtain ⟨rfl, rfl⟩ := hcut
      go_upto_if 22 with fail
      rw [show st (jn2 u) ++ st u.pa = st (jn3 u) from app_st _ _]
      go_cut [4] (fun v wx => v = .string (st (jn4 u)) ∧ w1 = wx)
      case first =>
        have e : jn4 u = jn3 u ++ if u.hq then [63] ++ u.qu else [] := rfl
        have E := Lib.hid e
        clear e
        cases hh : u.hq with
        | true =>
          have HH := Lib.hid hh
          clear hh
          go_wp2_with fail
          go_meet
          case rel => exact ⟨by rw [E.out, HH.out, if_pos rfl, app_st, app_st]; rfl, rfl⟩
        | false =>
          have HH := Lib.hid hh
          clear hh
          go_wp2_with fail
          go_meet
          case rel => exact ⟨by rw [E.out, HH.out]; simp, rfl⟩
      case rest =>
        obtain ⟨rfl, rfl⟩ := hcut
        go_upto_if 29 with fail
        go_cut [4] (fun v wx => v = .string (st (jn5 u)) ∧ w1 = wx)
        case first =>
          have e : jn5 u = jn4 u ++ if u.hf then [35] ++ u.fr else [] := rfl
          have E := Lib.hid e
          clear e
          cases hh : u.hf with
          | true =>
            have HH := Lib.hid hh
            clear hh
            go_wp2_with fail
            go_meet
            case rel => exact ⟨by rw [E.out, HH.out, if_pos rfl, app_st, app_st]; rfl, rfl⟩
          | false =>
            have HH := Lib.hid hh
            clear hh
            go_wp2_with fail
            go_meet
            case rel => exact ⟨by rw [E.out, HH.out]; simp, rfl⟩
        case rest =>
          obtain ⟨rfl, rfl⟩ := hcut
          rw [jn5_join] at m5 ⊢
          obtain ⟨acc, hacc⟩ : ∃ acc, acc = Mg.join u := ⟨_, rfl⟩
          rw [← hacc] at m5 ⊢
          have HJ := Lib.hid hacc
          have hlen : (st acc).size ≤ 2097152 := by omega
          clear hacc m1 m2 m3 m4 n1 n2 n3 n4 n5
          have hlt := hb.lt
          go_wp2_with fail
          have heq := fun W => run_eql_url2 (Mg.split (st acc).data.toList) u W
          have hgd := fun x y W => run_guard_url (Mg.split (st acc).data.toList) u x y W
          go_region_held3 (fun w' => w'.cell? ⟨w.heap.size, 0, none⟩ = some (.string (st u.sch)) ∧ w'.cell? ⟨w.heap.size, 1, none⟩ = some (.string (st u.au)) ∧ w'.cell? ⟨w.heap.size, 2, none⟩ = some (.string (st u.pa)) ∧ w'.cell? ⟨w.heap.size, 3, none⟩ = some (.string (st u.qu)) ∧ w'.cell? ⟨w.heap.size, 4, none⟩ = some (.string (st u.fr)) ∧ w'.cell? ⟨w.heap.size, 5, none⟩ = some (.bool u.hs) ∧ w'.cell? ⟨w.heap.size, 6, none⟩ = some (.bool u.ha) ∧ w'.cell? ⟨w.heap.size, 7, none⟩ = some (.bool u.hq) ∧ w'.cell? ⟨w.heap.size, 8, none⟩ = some (.bool u.hf)) (first | exact ⟨d0, d1, d2, d3, d4, d5, d6, d7, d8⟩ | exact ⟨cell_kept (wk := w1.drew) d0 hb7, cell_kept (wk := w1.drew) d1 hb7, cell_kept (wk := w1.drew) d2 hb7, cell_kept (wk := w1.drew) d3 hb7, cell_kept (wk := w1.drew) d4 hb7, cell_kept (wk := w1.drew) d5 hb7, cell_kept (wk := w1.drew) d6 hb7, cell_kept (wk := w1.drew) d7 hb7, cell_kept (wk := w1.drew) d8 hb7⟩) (first | (go_at_call 14; refine (ref_SplitOf _ _ hlen).mono ?_; rintro e w7 ⟨rfl, hb7⟩))
          all_goals
            go_wp2_with fail
            go_ret2
            refine ⟨?_, hbl.drew.trans (hb7.mono (by have := hbl.size; exact this))⟩
            rw [← HJ.out]
            show _ = Ending.returned (.tuple #[.string (st acc), .bool (Mg.split (Mg.join u) == u)])
            rw [← HJ.out]
            rfl
end Go.Proofs.Ytpagegjhihijcaa
