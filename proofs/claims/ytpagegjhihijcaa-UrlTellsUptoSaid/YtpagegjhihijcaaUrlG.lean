/- Contracts of Without and Dots: a path without its dots, as the plain law has it. Condition: a path of at most 2097152 bytes. -/
import Derived.Test.YtpagegjhihijcaaUrlF
import Derived.Deep.LoopGhost
namespace Go.Proofs.Ytpagegjhihijcaa
open Go.RowKit

theorem join_flat (l : List (List UInt8)) : Lib.join l [] = l.flatten := by
  unfold Lib.join
  induction l with
  | nil => rfl
  | cons a t ih =>
    cases t with
    | nil => simp [List.intercalate, List.intersperse]
    | cons b t =>
      simp [List.intercalate, List.intersperse] at ih ⊢
      exact ih

/-- strings.Join of parts that the call owns, with nothing between. -/
theorem join_parts (base : Nat) (o : List (List UInt8)) (v : Value) (w : World) (hown : w.ownsRow base 9 1 v o.length (sv o)) (hl : o.length ≤ 2097152) (hf : o.flatten.length ≤ 2097152) :
    Calls Try.prog 34 #[v, .string ⟨#[]⟩] w fun e w' => e = .returned (.string (st o.flatten)) ∧ Below w.heap.size w w' := by
  rcases hown.2 with ⟨rfl, h0⟩ | ⟨g, cap, cur, rfl, _, hh, hnc, hcm, _⟩
  · have : o = [] := List.eq_nil_of_length_eq_zero h0
    subst this
    exact (Try.strings_Join_none none 0 ⟨#[]⟩ w).mono fun e w' ⟨he, hw⟩ => ⟨he, by rw [hw]; exact Below.refl _ _⟩
  · have hc := hown.cells (g := g) rfl
    have e1 : (o.map st).length = o.length := by simp
    have e2 : List.map (fun x : ByteArray => x.data.toList) (o.map st) = o := by rw [List.map_map]; exact List.map_id _
    have hj := Try.strings_Join g 0 cap (o.map st) ⟨#[]⟩ w (by
      intro j x hj
      have hjo : (sv o)[j]? = some (.string x) := by
        simp only [sv, List.getElem?_map, Option.map_eq_some_iff] at hj ⊢
        obtain ⟨a, ha, rfl⟩ := hj
        exact ⟨a, ha, rfl⟩
      have := hc j _ hjo
      have ea : (⟨g, 0, none⟩ : Addr).add j = ⟨g, 0 + j, none⟩ := by unfold Addr.add; split <;> simp_all
      rw [← ea]; exact this) (hown.lt g rfl).2 (by rw [e1]; omega) (by rw [e1]; exact hnc) (by rw [e2]; show (Lib.join o []).length ≤ _; rw [join_flat]; omega)
    rw [e1, e2] at hj
    refine hj.mono fun e w' ⟨he, hw⟩ => ⟨?_, hw⟩
    rw [he]
    show Ending.returned (.string (st (Lib.join o []))) = _
    rw [join_flat]

theorem dpart_len (i : List UInt8) (o : List (List UInt8)) : (Mg.dpart i o).length ≤ o.length + 1 := by
  unfold Mg.dpart
  rw [List.length_append]
  split <;> split <;> simp <;> omega
set_option maxHeartbeats 1000000 in
theorem url_Without (s : ByteArray) (w : World) (hs : s.size ≤ 2097152) :
    Calls Try.prog 22 #[.string s] w fun e w' => e = .returned (.string (st (Mg.dots s.data.toList))) ∧ Below w.heap.size w w' := by
  have hd0 : DSt w.heap.size w (w.alloc (.cells #[.string (st s.data.toList), .slice none 0 0] 56)) s.data.toList [] (.slice none 0 0) :=
    ⟨(Below.refl _ w).alloc (Nat.le_refl _) _, Blk.new w _ _, World.ownsRow_nil _ _ _ _⟩
  go_enter Try.func22, Try.ntmps22
  go_wp2_with fail
  go_loopg [] s.size (fun g wx => ∃ i o v, i.length ≤ g ∧ o.length + i.length ≤ s.size ∧ DSt w.heap.size w wx i o v ∧ Hid (Mg.dotsO i o.flatten = Mg.dots s.data.toList) ∧ Mg.okParts o ∧ Hid (o ≠ [] → i = [] ∨ Mg.slashed i))
  case atStart => exact ⟨s.data.toList, [], _, by simp, by simp, hd0, rfl, trivial, fun h => absurd rfl h⟩
  case round =>
    obtain ⟨i, o, v, hig, hil, hd, hr, hok, hsl⟩ := hrel
    have c0 : wr.cell? ⟨w.heap.size, 0, none⟩ = some (.string (st i)) := hd.blk.cell 0
    by_cases hi : i = []
    · subst hi
      have he : (st []).toList = [] := Lib.toList_data _
      have hfl : o.flatten = Mg.dots s.data.toList := by rw [← hr.out]; rfl
      have hlen : o.flatten.length ≤ 2097152 := by rw [hfl]; have := Mg.dots_len s.data.toList; simp at this; omega
      have HF := Lib.hid hfl
      have c1 : wr.cell? ⟨w.heap.size, 1, none⟩ = some v := hd.blk.cell 1
      clear hfl
      go_wp2_with fail
      refine (join_parts _ o v _ hd.own (by omega) hlen).mono ?_
      rintro e w2 ⟨rfl, hb2⟩
      go_wp2_with fail
      go_ret
      exact ⟨by rw [HF.out]; rfl, hd.below.trans (hb2.mono hd.below.size)⟩
    · have he : (st i).toList.isEmpty = false := by
        have : (st i).toList = i := Lib.toList_data _
        rw [this]
        cases i with
        | nil => exact absurd rfl hi
        | cons _ _ => rfl
      obtain ⟨p1, p2, p3⟩ := Mg.dpart_ok i o hi hok (fun h => (hsl.out h).resolve_left hi)
      have hr2 : Hid (Mg.dotsO (Mg.dmove i).2.1 (Mg.dpart i o).flatten = Mg.dots s.data.toList) := by
        show _ = _
        rw [p1, ← Mg.dotsO_step i _ hi, hr.out]
      have hless := Mg.dmove_less i hi
      have hdp := dpart_len i o
      have P3 := Lib.hid p3
      clear p1 p3 hr
      have HI := Lib.hid hi
      clear hi
      go_wp2_with fail
      refine (dotless_step _ w _ i o v hd HI.out (by omega)).mono ?_
      rintro e w2 ⟨rfl, v2, hd2⟩
      go_wp2_with fail
      go_roundg (gk - 1)
      case measure => omega
      case rel => exact ⟨_, _, v2, by omega, by omega, hd2, hr2, p2, P3⟩

set_option maxHeartbeats 400000 in
theorem url_Dots_long (s : ByteArray) (w : World) (hs : 3000 < s.size) :
    Calls Try.prog 9 #[.string s] w fun e w' => e = .returned (.tuple #[.string (st []), .int .i64 2]) ∧ Below w.heap.size w w' := by
  have hd : decide (3000 < s.size) = true := by simpa using hs
  go_enter Try.func9, Try.ntmps9
  go_wp2_with (go_at_call 19; refine (url_long _ _).mono ?_; rintro e w' ⟨rfl, rfl⟩; rw [hd])
  go_ret2
  exact ⟨rfl, Below.refl _ _⟩
set_option maxHeartbeats 400000 in
theorem url_Dots_ok (s : ByteArray) (w : World) (hs : s.size ≤ 3000) :
    Calls Try.prog 9 #[.string s] w fun e w' => e = .returned (.tuple #[.string (st (Mg.dots s.data.toList)), .int .i64 0]) ∧ Below w.heap.size w w' := by
  have hd : decide (3000 < s.size) = false := decide_eq_false (by omega)
  go_enter Try.func9, Try.ntmps9
  go_wp2_with (first | (go_at_call 19; refine (url_long _ _).mono ?_; rintro e w' ⟨rfl, rfl⟩; rw [hd]) | (go_at_call 22; refine (url_Without _ _ (by omega)).mono ?_; rintro e w' ⟨rfl, hb⟩))
  go_ret2
  exact ⟨rfl, hb⟩
end Go.Proofs.Ytpagegjhihijcaa
