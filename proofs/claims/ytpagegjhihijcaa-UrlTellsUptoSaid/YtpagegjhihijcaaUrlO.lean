/- The law that bytes below 33 and great letters change nothing of what may be followed: UrlSafe answers true, whatever it is handed. -/
import Derived.Test.YtpagegjhihijcaaUrlL
import Derived.Deep.RegionHeld3
namespace Go.Proofs.Ytpagegjhihijcaa
open Go.RowKit

theorem upc_up (c : UInt8) (h1 : 97 ≤ (c.toNat : Int)) (h2 : (c.toNat : Int) ≤ 122) : (Mg.upc c).toNat = (c.toNat : Int) - 32 := by
  have a : (97 ≤ c && c ≤ 122) = true := by
    rw [Bool.and_eq_true, decide_eq_true_eq, decide_eq_true_eq, UInt8.le_iff_toNat_le, UInt8.le_iff_toNat_le]
    exact ⟨by show 97 ≤ c.toNat; omega, by show c.toNat ≤ 122; omega⟩
  unfold Mg.upc
  rw [if_pos a, UInt8.toNat_sub_of_le _ _ (by rw [UInt8.le_iff_toNat_le]; show 32 ≤ c.toNat; omega)]
  show ((c.toNat - 32 : Nat) : Int) = _
  omega
theorem upc_no (c : UInt8) (h : ¬ (97 ≤ (c.toNat : Int) ∧ (c.toNat : Int) ≤ 122)) : Mg.upc c = c := by
  have a : (97 ≤ c && c ≤ 122) = false := by
    rw [Bool.eq_false_iff]
    intro e
    rw [Bool.and_eq_true, decide_eq_true_eq, decide_eq_true_eq, UInt8.le_iff_toNat_le, UInt8.le_iff_toNat_le] at e
    have e1 : 97 ≤ c.toNat := e.1
    have e2 : c.toNat ≤ 122 := e.2
    omega
  unfold Mg.upc
  rw [a]; rfl
theorem run_convert_one (w : World) (c : UInt8) (x : Int) (hx : (c.toNat : Int) = x) :
    (convert 44 9 (.slice (some ⟨w.heap.size, 0, none⟩) 1 1)).run Try.prog (w.alloc (.cells #[.int .u8 x] 5)) = .ok (.string (st [c])) (w.alloc (.cells #[.int .u8 x] 5)) := by
  subst hx
  have hown : (w.alloc (.cells #[.int .u8 (c.toNat : Int)] 5)).ownsRow w.heap.size 5 1 (.slice (some ⟨w.heap.size, 0, none⟩) 1 1) 1 (bv [c]) :=
    ⟨rfl, .inr ⟨w.heap.size, 1, #[.int .u8 (c.toNat : Int)], rfl, Nat.le_refl _, heap_alloc_new w _, Nat.le_refl _, by unfold maxLen; omega, rfl, rfl⟩⟩
  exact run_convert_own (P := Try.prog) _ 44 9 5 Try.underlying44 Try.underlying5 Try.underlying9 _ hown
def upL (l : List UInt8) : List UInt8 := l.map Mg.upc
theorem upL_len (l : List UInt8) : (st (upL l)).size = l.length := by rw [st_size, upL, List.length_map]
theorem up_snoc (s : ByteArray) (k : Nat) (h : k < s.size) : st (upL (s.data.toList.take k)) ++ st [Mg.upc s[k]] = st (upL (s.data.toList.take (k + 1))) := by
  unfold upL
  rw [app_st, bs_take s k h, List.map_append]; rfl
theorem safe_cut (s : ByteArray) (n : Nat) (h : n ≤ s.size) : Mg.isSafe (s.extract 0 n ++ st [10] ++ s.extract n s.size).data.toList = Mg.isSafe s.data.toList := by
  rw [extract_st, extract_st, app_st, app_st]
  simp only [bs_st, List.drop_zero, Nat.sub_zero]
  have e : ((s.data.toList.drop n).take (s.size - n)) = s.data.toList.drop n := List.take_of_length_le (by simp)
  rw [e, Mg.isSafe_insert _ _ 10 (by decide), List.take_append_drop]

set_option maxHeartbeats 1000000 in
set_option maxRecDepth 100000 in
theorem law_UrlSafe (s : ByteArray) (i : Int) (w : World) :
    Calls Try.prog 6 #[.string s, .int .i64 i] w fun e w' => e = .returned (.bool true) ∧ Below w.heap.size w w' := by
  by_cases hl : 3000 < s.size
  · go_enter Try.func6, Try.ntmps6
    go_wp2_with fail
    refine (url_Safe_long _ _ hl).mono ?_
    rintro e w1 ⟨rfl, hb1⟩
    go_wp2_with fail
    refine (law_urlBegun _).mono ?_
    rintro e w2 ⟨rfl, hb2⟩
    have l2 := hb1.trans (hb2.mono hb1.size)
    clear hb1 hb2
    go_wp2_with fail
    go_ret
    exact ⟨rfl, l2⟩
  by_cases hc : 0 ≤ i ∧ i ≤ s.size ∧ s.size < 3000
  · obtain ⟨h0, h1, h2⟩ := hc
    obtain ⟨n, rfl⟩ : ∃ n : Nat, i = n := ⟨i.toNat, by omega⟩
    obtain ⟨b, hb⟩ : ∃ b, Mg.isSafe s.data.toList = b := ⟨_, rfl⟩
    have hd3 : decide (3000 ≤ s.size) = false := decide_eq_false (by omega)
    have hS := url_Safe_ok s
    rw [hb] at hS
    have hA := fun (w : World) (hw : (s.extract 0 n ++ st [10] ++ s.extract n s.size).size ≤ 3000) => url_Safe_ok (s.extract 0 n ++ st [10] ++ s.extract n s.size) w hw
    rw [safe_cut s n (by omega), hb] at hA
    have hB := url_Safe_ok (st (upL s.data.toList))
    rw [bs_st, upL, Mg.isSafe_up, hb, ← upL] at hB
    have hC := url_Safe_ok (st [47] ++ s)
    rw [app_st, bs_st, bs_st] at hC
    rw [show [47] ++ s.data.toList = 47 :: s.data.toList from rfl, Mg.isSafe_slash] at hC
    have HS := Lib.hid hS
    have HA := Lib.hid hA
    have HB := Lib.hid hB
    have HC := Lib.hid hC
    clear hS hA hB hC hb
    go_enter Try.func6, Try.ntmps6
    go_wp2_with fail
    refine (HS.out _ (by omega)).mono ?_
    rintro e w1 ⟨rfl, hb1⟩
    go_wp2_with fail
    refine (law_urlBegun _).mono ?_
    rintro e w2 ⟨rfl, hb2⟩
    have l2 := hb1.trans (hb2.mono hb1.size)
    clear hb1 hb2
    go_wp2_with fail
    have hn1 : (n : Int) ≤ s.size := h1
    have hlen : (s.extract 0 n ++ st [10] ++ s.extract n s.size).size ≤ 3000 := by
      simp only [ByteArray.size_append, ByteArray.size_extract, st_size]; simp; omega
    have q1 : ¬ 9223372036854775807 < n + 1 := by omega
    have q2 : ¬ 9223372036854775807 < n + 1 + (s.size - n) := by omega
    go_region_held3 (fun _ => True) (exact trivial) (first | (go_at_call 11; refine (HA.out _ hlen).mono ?_; rintro e w7 ⟨rfl, hb7⟩))
    have l3 : Below w.heap.size w w7 := l2.drew.trans (hb7.mono (by have := l2.size; exact this))
    clear hb7 l2 hlen q1 q2 HA HS
    go_wp2_with fail
    go_loopw [9, 10] (fun v j wr => ∃ k : Nat, k ≤ s.size ∧ j = .int .i64 k ∧ v = .string (st (upL (s.data.toList.take k))) ∧ Below w.heap.size w wr) (fun _ j _ => s.size - (intOf j).toNat)
    case atStart => exact ⟨0, Nat.zero_le _, rfl, rfl, l3⟩
    case round =>
      obtain ⟨k, hk, rfl, rfl, hbl⟩ := hrel
      by_cases hlt : k < s.size
      · have hb : (s[k].toNat : Int) ≤ 255 := by have := s[k].toNat_lt; omega
        have hsz : ¬ 9223372036854775807 < (st (upL (s.data.toList.take k))).size + (st [Mg.upc s[k]]).size := by rw [upL_len, List.length_take, st_size]; simp; omega
        have HU := Lib.hid (up_snoc s k hlt)
        have l4 := fun x => hbl.alloc hbl.size (.cells #[.int .u8 x] 5)
        by_cases hup : 97 ≤ (s[k].toNat : Int) ∧ (s[k].toNat : Int) ≤ 122
        · have hcv := run_convert_one wr (Mg.upc s[k]) ((s[k].toNat : Int) - 32) (upc_up _ hup.1 hup.2)
          go_wp2_with fail
          go_roundw
          case rel => exact ⟨k + 1, by omega, by go_num, by rw [HU.out], l4 _⟩
          case measure => simp [intOf]; omega
        · have hcv := run_convert_one wr (Mg.upc s[k]) (s[k].toNat : Int) (by rw [upc_no _ hup])
          go_wp2_with fail
          all_goals
            go_roundw
            case rel => exact ⟨k + 1, by omega, by go_num, by rw [HU.out], l4 _⟩
            case measure => simp [intOf]; omega
      · have hd : decide (k < s.size) = false := by simpa using hlt
        rw [List.take_of_length_le (by simp; omega)]
        have hz : (st (upL s.data.toList)).size ≤ 3000 := by rw [upL_len]; simp; omega
        have hz2 : (st (47 :: s.data.toList)).size ≤ 3000 := by simp [st_size]; omega
        go_wp2_with fail
        refine (HB.out _ hz).mono ?_
        rintro e w4 ⟨rfl, hb4⟩
        have l4 := hbl.trans (hb4.mono hbl.size)
        clear hb4 hbl
        go_wp2_with fail
        rw [show (⟨#[47]⟩ : ByteArray) ++ s = st (47 :: s.data.toList) from app_st (st [47]) s]
        refine (HC.out _ hz2).mono ?_
        rintro e w5 ⟨rfl, hb5⟩
        have l5 := l4.trans (hb5.mono l4.size)
        clear hb5 l4
        go_wp2_with fail
        go_ret
        exact ⟨ret_bool (by simp), l5⟩
  · go_enter Try.func6, Try.ntmps6
    go_wp2_with fail
    refine (url_Safe_ok _ _ (by omega)).mono ?_
    rintro e w1 ⟨rfl, hb1⟩
    go_wp2_with fail
    refine (law_urlBegun _).mono ?_
    rintro e w2 ⟨rfl, hb2⟩
    have l2 := hb1.trans (hb2.mono hb1.size)
    clear hb1 hb2
    go_wp2_with fail
    · go_ret
      exact ⟨rfl, l2⟩
    · go_ret
      exact ⟨rfl, l2⟩
    · go_ret
      exact ⟨rfl, l2⟩
end Go.Proofs.Ytpagegjhihijcaa
