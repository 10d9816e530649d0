/- Contracts of Is and Safe: may a link be followed. Condition: a text of at most 2097152 bytes. -/
import Derived.Test.YtpagegjhihijcaaUrlG
import Derived.Lib.ConvBytes
namespace Go.Proofs.Ytpagegjhihijcaa
open Go.RowKit

/-- what Is gathers. -/
def gath (l : List UInt8) : List UInt8 := Mg.fold (l.filter (fun c => decide (32 < c)))
theorem gath_yes (l : List UInt8) (c : UInt8) (h : 32 < (c.toNat : Int)) : gath (l ++ [c]) = gath l ++ [Mg.low c] := by
  have : decide (32 < c) = true := by rw [decide_eq_true_eq, UInt8.lt_iff_toNat_lt]; show 32 < c.toNat; omega
  simp [gath, List.filter_append, this, Mg.fold]
theorem gath_no (l : List UInt8) (c : UInt8) (h : ¬ 32 < (c.toNat : Int)) : gath (l ++ [c]) = gath l := by
  have : decide (32 < c) = false := by rw [decide_eq_false_iff_not, UInt8.lt_iff_toNat_lt]; show ¬ 32 < c.toNat; omega
  simp [gath, List.filter_append, this, Mg.fold]
theorem gath_len (l : List UInt8) : (gath l).length ≤ l.length := by
  unfold gath Mg.fold; rw [List.length_map]; exact List.length_filter_le _ _

theorem schOf_le (t : List UInt8) : Mg.schOf t ≤ t.length := by
  by_cases h : Mg.schOf t = 0
  · omega
  · have := (List.getElem?_eq_some_iff.1 (Mg.schOf_at t h)).1
    omega
set_option maxHeartbeats 1000000 in
theorem url_Is (s : ByteArray) (w : World) (hs : s.size ≤ 2097152) :
    Calls Try.prog 25 #[.string s] w fun e w' => e = .returned (.bool (Mg.isSafe s.data.toList)) ∧ Below w.heap.size w w' := by
  obtain ⟨i0, hi, hz0, hz1, hz2⟩ := info_parts Try.infoB
  have hcv := Lib.run_convert_string_bytes (P := Try.prog) w 9 44 5 s (u := .string) Try.underlying9 Try.underlying44 Try.underlying5
  have hcl := fun j hj => Lib.bytesWorld_cell w 5 s j hj
  have hbw : Below w.heap.size w (Lib.bytesWorld w 5 s) := ⟨rfl, rfl, rfl, by rw [Lib.bytesWorld_size]; omega, fun k hk => Lib.bytesWorld_at_old w _ s k hk⟩
  have hsz := Lib.bytesWorld_size w 5 s
  generalize Lib.bytesWorld w 5 s = wv at hcv hcl hbw hsz
  have HCL := Lib.hid hcl; have HSZ := Lib.hid hsz
  clear hcl hsz
  go_enter Try.func25, Try.ntmps25
  go_wp2_with fail
  clear hcv
  go_loopw [3, 5, 11] (fun v _ i wr => ∃ k : Nat, k ≤ s.size ∧ i = .int .i64 k ∧ wr.ownsRow (w.heap.size + 1) 5 1 v (gath (s.data.toList.take k)).length (bv (gath (s.data.toList.take k))) ∧ Below (w.heap.size + 1) wv wr) (fun _ _ i _ => s.size - (intOf i).toNat)
  case atStart => exact ⟨0, Nat.zero_le _, rfl, World.ownsRow_nil _ _ _ _, Below.refl _ _⟩
  case round =>
    obtain ⟨k, hk, rfl, hown, hbl⟩ := hrel
    by_cases hlt : k < s.size
    · have hb : (s[k].toNat : Int) ≤ 255 := by have := s[k].toNat_lt; omega
      have hck : wr.cell? ⟨w.heap.size, k, none⟩ = some (.int .u8 (s[k].toNat : Int)) := by
        rw [hbl.cell (p := ⟨w.heap.size, k, none⟩) (by show w.heap.size < w.heap.size + 1; omega), HCL.out k hlt]
        have : s.data.toList.getD k 0 = s[k] := by rw [List.getD_eq_getElem?_getD, Lib.data_getElem? s k hlt]; rfl
        rw [this]
      have hszr : w.heap.size + 1 ≤ wr.heap.size := by have := hbl.size; have := HSZ.out; omega
      have hgl := gath_len (s.data.toList.take k)
      have hgl2 : (gath (s.data.toList.take k)).length ≤ k := by rw [List.length_take] at hgl; omega
      clear hgl
      by_cases h32 : 32 < (s[k].toNat : Int)
      · have HF := Lib.hid (gath_yes (s.data.toList.take k) s[k] h32)
        have HT := Lib.hid (bs_take s k hlt)
        go_wp2_with (first | (go_at_call 36; refine (url_lower _ _).mono ?_; rintro e w' ⟨rfl, rfl⟩) | (at_builtin; refine wpList_append_own _ rfl _ _ 44 rfl (w.heap.size + 1) 5 i0 (.int .u8 0) 1 1 Try.underlying44 hi hz0 hz1 hz2 rfl (by decide) _ _ _ rfl (hown.alloc _) ⟨wr.heap.size, 0, none⟩ 1 1 [.int .u8 ((Mg.low s[k]).toNat : Int)] rfl rfl (cell_one_new _ _ _) (one_cell _ rfl) (by unfold maxLen; omega) (by omega) (by simp; omega) ?_))
        intro v' w1 hown' hgrow _
        have hbl1 := below_grown (hbl.alloc hszr _) (hown.alloc _) hgrow (by simp; omega)
        rw [← bv_snoc, ← HF.out, ← HT.out] at hown'
        have hln : (gath (s.data.toList.take k)).length + 1 = (gath (s.data.toList.take (k + 1))).length := by rw [HT.out, HF.out, List.length_append]; rfl
        rw [hln] at hown'
        clear hown hgrow hbl hln
        go_wp2
        go_roundw
        case rel => exact ⟨k + 1, by omega, by go_num, hown', hbl1⟩
        case measure => simp [intOf]; omega
      · have HF := Lib.hid (gath_no (s.data.toList.take k) s[k] h32)
        have HT := Lib.hid (bs_take s k hlt)
        go_wp2
        rw [← HF.out, ← HT.out] at hown
        go_roundw
        case rel => exact ⟨k + 1, by omega, by go_num, hown, hbl⟩
        case measure => simp [intOf]; omega
    · rw [List.take_of_length_le (by simp; omega)] at hown
      have hc := run_convert_own (P := Try.prog) wr 44 9 5 Try.underlying44 Try.underlying5 Try.underlying9 _ hown
      have hfin := Mg.isSafe_fold s.data.toList
      have hgl := gath_len s.data.toList
      have HF := Lib.hid hfin
      clear hfin
      have hbf : Below w.heap.size w wr := hbw.trans (hbl.mono (by omega))
      obtain ⟨t, ht⟩ : ∃ t, gath s.data.toList = t := ⟨_, rfl⟩
      have hfin : Mg.isSafe s.data.toList = Mg.safeWord (t.take (Mg.schOf t)) := by rw [HF.out, ← ht]; rfl
      rw [ht] at hc hgl hown
      have HFF := Lib.hid hfin
      clear hfin HF ht hown hbl hbw
      have hnl := schOf_le t
      have hsl : t.length ≤ 2097152 := by simp at hgl; omega
      go_wp2_with fail
      change Calls _ _ #[.string (st t)] _ _
      refine (url_scheme (st t) _ (by simp only [st_size]; omega)).mono ?_
      rintro e w2 ⟨rfl, hb2⟩
      obtain ⟨n, hn⟩ : ∃ n, Mg.schOf (st t).data.toList = n := ⟨_, rfl⟩
      rw [hn]
      have hnt : (n : Int) ≤ (st t).size := by have hx : n = Mg.schOf t := hn.symm; simp only [st_size]; omega
      have hnt2 : n ≤ t.length := by have hx : n = Mg.schOf t := hn.symm; omega
      have hxl : (ByteArray.extract ⟨t.toArray⟩ 0 n).toList = t.take n := by rw [extract_bs]; simp
      have HXL := Lib.hid hxl
      clear hxl
      have hn2 : Mg.schOf t = n := hn
      have HN := Lib.hid hn2
      clear hn hn2 hc
      go_wp2_with fail
      · have e1 : (ByteArray.extract ⟨t.toArray⟩ 0 n).toList = [104, 116, 116, 112] := by assumption
        go_ret
        refine ⟨ret_bool ?_, hbf.trans (hb2.mono hbf.size)⟩
        rw [HXL.out] at e1
        rw [HFF.out, HN.out, e1]; rfl
      · have e1 : (ByteArray.extract ⟨t.toArray⟩ 0 n).toList = [104, 116, 116, 112, 115] := by assumption
        go_ret
        refine ⟨ret_bool ?_, hbf.trans (hb2.mono hbf.size)⟩
        rw [HXL.out] at e1
        rw [HFF.out, HN.out, e1]; rfl
      · go_ret
        refine ⟨ret_bool ?_, hbf.trans (hb2.mono hbf.size)⟩
        rw [HXL.out, HFF.out, HN.out]; rfl

set_option maxHeartbeats 400000 in
theorem url_Safe_long (s : ByteArray) (w : World) (hs : 3000 < s.size) :
    Calls Try.prog 11 #[.string s] w fun e w' => e = .returned (.tuple #[.bool false, .int .i64 2]) ∧ Below w.heap.size w w' := by
  have hd : decide (3000 < s.size) = true := by simpa using hs
  go_enter Try.func11, Try.ntmps11
  go_wp2_with (go_at_call 19; refine (url_long _ _).mono ?_; rintro e w' ⟨rfl, rfl⟩; rw [hd])
  go_ret2
  exact ⟨rfl, Below.refl _ _⟩
set_option maxHeartbeats 400000 in
theorem url_Safe_ok (s : ByteArray) (w : World) (hs : s.size ≤ 3000) :
    Calls Try.prog 11 #[.string s] w fun e w' => e = .returned (.tuple #[.bool (Mg.isSafe s.data.toList), .int .i64 0]) ∧ Below w.heap.size w w' := by
  have hd : decide (3000 < s.size) = false := decide_eq_false (by omega)
  go_enter Try.func11, Try.ntmps11
  go_wp2_with (first | (go_at_call 19; refine (url_long _ _).mono ?_; rintro e w' ⟨rfl, rfl⟩; rw [hd]) | (go_at_call 25; refine (url_Is _ _ (by omega)).mono ?_; rintro e w' ⟨rfl, hb⟩))
  go_ret2
  exact ⟨rfl, hb⟩
end Go.Proofs.Ytpagegjhihijcaa
