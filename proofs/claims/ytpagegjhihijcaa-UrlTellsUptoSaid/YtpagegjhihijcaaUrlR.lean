/- Contract of the reference's path without dots: DotsOf returns just what the plain Lean function says. Condition: a path of at most 2097152 bytes. -/
import Derived.Test.YtpagegjhihijcaaUrlP
import Derived.Test.YtpagegjhihijcaaUrlF
namespace Go.Proofs.Ytpagegjhihijcaa
open Go.RowKit

theorem bk_hit (l : List UInt8) : Mg.bk (l ++ [47]) = l := by simp [Mg.bk]
theorem bk_miss (l : List UInt8) (c : UInt8) (h : c ≠ 47) : Mg.bk (l ++ [c]) = Mg.bk l := by simp [Mg.bk, h]
theorem bk_one (c : UInt8) : Mg.bk [c] = [] := by
  by_cases h : c = 47
  · subst h; rfl
  · simp [Mg.bk, h]
theorem ref_startsAt0 (l pl : List UInt8) (p : ByteArray) (hp : p.data.toList = pl) (w : World) (hl : (st l).size ≤ 9223372036854775807) (hpl : p.size ≤ 9223372036854775807) :
    Calls Try.prog 27 #[.string (st l), .int .i64 0, .string p] w fun e w' => e = .returned (.bool (Mg.pre pl l)) ∧ w = w' := by
  subst hp
  exact ref_startsAt (st l) p 0 w (Nat.zero_le _) hl hpl
theorem dflt_upTo (i : List UInt8) (hi : i ≠ []) : ∃ m, 1 ≤ m ∧ m ≤ i.length ∧ 1 + upToL [47] (i.drop 1) = m ∧ i.take 1 ++ i.tail.takeWhile (· != 47) = i.take m ∧ i.tail.dropWhile (· != 47) = i.drop m := by
  obtain ⟨c, t, rfl⟩ := List.exists_cons_of_ne_nil hi
  have e : (fun c : UInt8 => ![47].contains c) = (fun c : UInt8 => c != 47) := by funext c; rw [Bool.eq_iff_iff]; simp
  have h := List.takeWhile_append_dropWhile (p := fun c : UInt8 => c != 47) (l := t)
  have hl : (t.takeWhile (fun c : UInt8 => c != 47)).length ≤ t.length := List.Sublist.length_le (List.takeWhile_sublist _)
  refine ⟨1 + (t.takeWhile (fun c : UInt8 => c != 47)).length, by omega, by simp; omega, ?_, ?_, ?_⟩
  · unfold upToL; rw [e]; rfl
  · rw [Nat.add_comm]
    simp only [List.take_succ_cons, List.tail_cons, List.take_zero, List.singleton_append]
    congr 1
    conv => rhs; arg 2; rw [← h]
    rw [List.take_left']; rfl
  · rw [Nat.add_comm]
    simp only [List.drop_succ_cons, List.tail_cons]
    conv => rhs; arg 2; rw [← h]
    rw [List.drop_left']; rfl
def strl : Value → Nat | .string b => b.size | _ => 0
theorem strl_st (i : List UInt8) : strl (.string (st i)) = i.length := rfl
theorem strl_suf (i : List UInt8) (n : Nat) : strl (.string ((st i).extract n (st i).size)) = i.length - n := by rw [extract_suf, strl_st, bs_st, List.length_drop]
theorem dm_go {i o s i' : List UInt8} {p : List UInt8} {b : Bool} (hi : i ≠ []) (hr : Hid (Mg.dotsO i o = Mg.dots s)) (hd : Mg.dmove i = (b, i', p)) : Hid (Mg.dotsO i' ((if b then Mg.bk o else o) ++ p) = Mg.dots s) := by
  have h := Mg.dotsO_step i o hi
  rw [hd] at h
  show _ = _
  rw [← h, hr.out]
theorem dm_less {i i' p : List UInt8} {b : Bool} (hi : i ≠ []) (hd : Mg.dmove i = (b, i', p)) : i'.length < i.length := by
  have h := Mg.dmove_less i hi
  rwa [hd] at h
theorem dm_len {i i' p : List UInt8} {b : Bool} (hi : i ≠ []) (hd : Mg.dmove i = (b, i', p)) : i'.length + p.length ≤ i.length := by
  have h := Mg.dmove_len i hi
  rwa [hd] at h

set_option maxHeartbeats 2000000 in
set_option maxRecDepth 100000 in
theorem ref_DotsOf (s : ByteArray) (w : World) (hs : s.size ≤ 2097152) :
    Calls Try.prog 15 #[.string s] w fun e w' => e = .returned (.string (st (Mg.dots s.data.toList))) ∧ ∃ n, w' = w.drewN n := by
  go_enter Try.func15, Try.ntmps15
  go_wp2_with fail
  go_loopw [0, 3] (fun a b wr => ∃ i o : List UInt8, a = .string (st i) ∧ b = .string (st o) ∧ i.length + o.length ≤ s.size ∧ Hid (Mg.dotsO i o = Mg.dots s.data.toList) ∧ ∃ n, wr = w.drewN n) (fun a _ _ => strl a)
  case atStart => exact ⟨s.data.toList, [], rfl, rfl, by simp, rfl, 0, rfl⟩
  case round =>
    obtain ⟨i, o, rfl, rfl, hil, hr, n, rfl⟩ := hrel
    have hst : ∀ l, (st l).toList = l := fun l => Lib.toList_data _
    have hsz : (st i).size ≤ 2097152 := by simp only [st_size]; omega
    have hoz : (st o).size ≤ 2097152 := by simp only [st_size]; omega
    by_cases hi : i = []
    · subst hi
      have e : Mg.dots s.data.toList = o := by rw [← hr.out]; rfl
      have E := Lib.hid e
      clear e hr
      go_wp2_with fail
      go_ret
      exact ⟨by rw [E.out]; rfl, n, rfl⟩
    have he : i.isEmpty = false := by
      cases i with
      | nil => exact absurd rfl hi
      | cons _ _ => rfl
    have HI := Lib.hid hi
    clear hi
    go_wp2_with fail
    refine (ref_startsAt0 i [46, 46, 47] _ rfl _ (by omega) (by decide)).mono ?_
    rintro e w1 ⟨rfl, rfl⟩
    cases t1 : Mg.pre [46, 46, 47] i with
    | true =>
      have hz : (3 : Int) ≤ (st i).size := by have h3 : ((([46, 46, 47] : List UInt8).length : Nat) : Int) ≤ (st i).size := pre_len t1; simp at h3; omega
      have T := dm_1 t1
      have HR := dm_go HI.out hr T
      have hless := dm_less HI.out T
      have hlen := dm_len HI.out T
      simp only [List.append_nil, Bool.false_eq_true, if_false, if_true] at HR
      simp only [List.length_nil] at hlen
      clear T hr he t1
      go_wp2_with fail
      go_roundw
      case rel => exact ⟨i.drop 3, o, by rw [extract_suf]; rfl, rfl, by omega, HR, _, rfl⟩
      case measure => rw [strl_suf, strl_st]; rw [List.length_drop] at hless; exact hless
    | false =>
    go_wp2_with fail
    refine (ref_startsAt0 i [46, 47] _ rfl _ (by omega) (by decide)).mono ?_
    rintro e w1 ⟨rfl, rfl⟩
    cases t2 : Mg.pre [46, 47] i with
    | true =>
      have hz : (2 : Int) ≤ (st i).size := by have h3 : ((([46, 47] : List UInt8).length : Nat) : Int) ≤ (st i).size := pre_len t2; simp at h3; omega
      have T := dm_2 t1 t2
      have HR := dm_go HI.out hr T
      have hless := dm_less HI.out T
      have hlen := dm_len HI.out T
      simp only [List.append_nil, Bool.false_eq_true, if_false, if_true] at HR
      simp only [List.length_nil] at hlen
      clear T hr he t1 t2
      go_wp2_with fail
      go_roundw
      case rel => exact ⟨i.drop 2, o, by rw [extract_suf]; rfl, rfl, by omega, HR, _, rfl⟩
      case measure => rw [strl_suf, strl_st]; rw [List.length_drop] at hless; exact hless
    | false =>
    go_wp2_with fail
    refine (ref_startsAt0 i [47, 46, 47] _ rfl _ (by omega) (by decide)).mono ?_
    rintro e w1 ⟨rfl, rfl⟩
    cases t3 : Mg.pre [47, 46, 47] i with
    | true =>
      have hz : (2 : Int) ≤ (st i).size := by have h3 : ((([47, 46, 47] : List UInt8).length : Nat) : Int) ≤ (st i).size := pre_len t3; simp at h3; omega
      have T := dm_3 t1 t2 t3
      have HR := dm_go HI.out hr T
      have hless := dm_less HI.out T
      have hlen := dm_len HI.out T
      simp only [List.append_nil, Bool.false_eq_true, if_false, if_true] at HR
      simp only [List.length_nil] at hlen
      clear T hr he t1 t2 t3
      go_wp2_with fail
      go_roundw
      case rel => exact ⟨i.drop 2, o, by rw [extract_suf]; rfl, rfl, by omega, HR, _, rfl⟩
      case measure => rw [strl_suf, strl_st]; rw [List.length_drop] at hless; exact hless
    | false =>
    by_cases h4 : i = [47, 46]
    · have t4 : (i == [47, 46]) = true := beq_iff_eq.2 h4
      have T := dm_4 t1 t2 t3 t4
      have HR := dm_go HI.out hr T
      have hless := dm_less HI.out T
      have hlen := dm_len HI.out T
      simp only [List.append_nil, Bool.false_eq_true, if_false, if_true] at HR
      simp only [List.length_nil] at hlen
      clear T hr he t1 t2 t3 t4
      subst h4
      go_wp2_with fail
      go_roundw
      case rel => exact ⟨[47], o, rfl, rfl, by omega, HR, _, rfl⟩
      case measure => first | exact hless | decide
    have t4 : (i == [47, 46]) = false := beq_eq_false_iff_ne.2 h4
    clear h4
    go_wp2_with fail
    refine (ref_startsAt0 i [47, 46, 46, 47] _ rfl _ (by omega) (by decide)).mono ?_
    rintro e w1 ⟨rfl, rfl⟩
    cases t5 : Mg.pre [47, 46, 46, 47] i with
    | true =>
      have hz : (3 : Int) ≤ (st i).size := by have h3 : ((([47, 46, 46, 47] : List UInt8).length : Nat) : Int) ≤ (st i).size := pre_len t5; simp at h3; omega
      have hn6 : (i == [47, 46, 46]) = false := by rw [beq_eq_false_iff_ne]; rintro rfl; exact absurd t5 (by decide)
      have T := dm_5 t1 t2 t3 t4 t5
      have HR := dm_go HI.out hr T
      have hless := dm_less HI.out T
      have hlen := dm_len HI.out T
      simp only [List.append_nil, Bool.false_eq_true, if_false, if_true] at HR
      simp only [List.length_nil] at hlen
      clear T hr he t1 t2 t3 t4 t5
      by_cases ho : o = []
      · subst ho
        go_wp2_with fail
        go_loop [4] (fun v => v = .int .i64 (-1)) (fun _ => 0)
        case atStart => rfl
        case round =>
          obtain rfl := hrel
          go_wp2_with fail
          go_roundw
          case rel => exact ⟨i.drop 3, [], by rw [extract_suf]; rfl, rfl, by simp; omega, HR, _, rfl⟩
          case measure => rw [strl_suf, strl_st]; rw [List.length_drop] at hless; exact hless
      have hol : 0 < o.length := List.length_pos_iff.2 ho
      clear ho
      go_wp2_with fail
      go_loop [4] (fun v => ∃ k : Nat, k < o.length ∧ v = .int .i64 k ∧ Hid (Mg.bk o = Mg.bk (o.take (k + 1)))) (fun v => (intOf v).toNat)
      case atStart => exact ⟨o.length - 1, by omega, by rw [st_size]; congr 1; omega, by show _ = _; rw [List.take_of_length_le (by omega)]⟩
      case round =>
        obtain ⟨k, hk, rfl, hb⟩ := hrel
        have hks : k < (st o).size := hk
        have hsn : o.take (k + 1) = o.take k ++ [(st o)[k]] := bs_take (st o) k hks
        by_cases h0 : 0 < k
        · by_cases hc : (st o)[k] = 47
          · have hx : Mg.bk o = o.take k := by rw [hb.out, hsn, hc, bk_hit]
            have HX := Lib.hid hx
            have hcb : (((st o)[k].toNat : Int) != 47) = false := by rw [hc]; rfl
            clear hx hb hsn hc
            rw [HX.out] at HR
            go_wp2_with fail
            go_roundw
            case rel => exact ⟨i.drop 3, o.take k, by rw [extract_suf]; rfl, by rw [extract_pre]; rfl, by rw [List.length_take]; omega, HR, _, rfl⟩
            case measure => rw [strl_suf, strl_st]; rw [List.length_drop] at hless; exact hless
          · have hx : Mg.bk o = Mg.bk (o.take k) := by rw [hb.out, hsn, bk_miss _ _ hc]
            have HX := Lib.hid hx
            have hcb : (((st o)[k].toNat : Int) != 47) = true := by rw [bne_iff_ne]; intro e; exact hc (UInt8.toNat_inj.1 (by show (st o)[k].toNat = 47; omega))
            clear hx hb hsn hc
            go_wp2_with fail
            go_round
            case rel => exact ⟨k - 1, by omega, by congr 1; omega, by show _ = _; rw [Nat.sub_add_cancel h0, HX.out]⟩
            case measure => simp [intOf]; omega
        · have hx : Mg.bk o = o.take k := by
            have e0 : k = 0 := by omega
            subst e0
            rw [hb.out, hsn]
            exact bk_one _
          have HX := Lib.hid hx
          have hd0 : decide (0 < k) = false := by simpa using h0
          clear hx hb hsn
          rw [HX.out] at HR
          go_wp2_with fail
          go_roundw
          case rel => exact ⟨i.drop 3, o.take k, by rw [extract_suf]; rfl, by rw [extract_pre]; rfl, by rw [List.length_take]; omega, HR, _, rfl⟩
          case measure => rw [strl_suf, strl_st]; rw [List.length_drop] at hless; exact hless
    | false =>
    by_cases h6 : i = [47, 46, 46]
    · have t6 : (i == [47, 46, 46]) = true := beq_iff_eq.2 h6
      have T := dm_6 t1 t2 t3 t4 t5 t6
      have HR := dm_go HI.out hr T
      have hless := dm_less HI.out T
      have hlen := dm_len HI.out T
      simp only [List.append_nil, Bool.false_eq_true, if_false, if_true] at HR
      simp only [List.length_nil] at hlen
      clear T hr he t1 t2 t3 t4 t5 t6
      subst h6
      by_cases ho : o = []
      · subst ho
        go_wp2_with fail
        go_loop [4] (fun v => v = .int .i64 (-1)) (fun _ => 0)
        case atStart => rfl
        case round =>
          obtain rfl := hrel
          go_wp2_with fail
          go_roundw
          case rel => exact ⟨[47], [], rfl, rfl, by simp; omega, HR, _, rfl⟩
          case measure => first | exact hless | decide
      have hol : 0 < o.length := List.length_pos_iff.2 ho
      clear ho
      go_wp2_with fail
      go_loop [4] (fun v => ∃ k : Nat, k < o.length ∧ v = .int .i64 k ∧ Hid (Mg.bk o = Mg.bk (o.take (k + 1)))) (fun v => (intOf v).toNat)
      case atStart => exact ⟨o.length - 1, by omega, by rw [st_size]; congr 1; omega, by show _ = _; rw [List.take_of_length_le (by omega)]⟩
      case round =>
        obtain ⟨k, hk, rfl, hb⟩ := hrel
        have hks : k < (st o).size := hk
        have hsn : o.take (k + 1) = o.take k ++ [(st o)[k]] := bs_take (st o) k hks
        by_cases h0 : 0 < k
        · by_cases hc : (st o)[k] = 47
          · have hx : Mg.bk o = o.take k := by rw [hb.out, hsn, hc, bk_hit]
            have HX := Lib.hid hx
            have hcb : (((st o)[k].toNat : Int) != 47) = false := by rw [hc]; rfl
            clear hx hb hsn hc
            rw [HX.out] at HR
            go_wp2_with fail
            go_roundw
            case rel => exact ⟨[47], o.take k, rfl, by rw [extract_pre]; rfl, by rw [List.length_take]; omega, HR, _, rfl⟩
            case measure => first | exact hless | decide
          · have hx : Mg.bk o = Mg.bk (o.take k) := by rw [hb.out, hsn, bk_miss _ _ hc]
            have HX := Lib.hid hx
            have hcb : (((st o)[k].toNat : Int) != 47) = true := by rw [bne_iff_ne]; intro e; exact hc (UInt8.toNat_inj.1 (by show (st o)[k].toNat = 47; omega))
            clear hx hb hsn hc
            go_wp2_with fail
            go_round
            case rel => exact ⟨k - 1, by omega, by congr 1; omega, by show _ = _; rw [Nat.sub_add_cancel h0, HX.out]⟩
            case measure => simp [intOf]; omega
        · have hx : Mg.bk o = o.take k := by
            have e0 : k = 0 := by omega
            subst e0
            rw [hb.out, hsn]
            exact bk_one _
          have HX := Lib.hid hx
          have hd0 : decide (0 < k) = false := by simpa using h0
          clear hx hb hsn
          rw [HX.out] at HR
          go_wp2_with fail
          go_roundw
          case rel => exact ⟨[47], o.take k, rfl, by rw [extract_pre]; rfl, by rw [List.length_take]; omega, HR, _, rfl⟩
          case measure => first | exact hless | decide
    have t6 : (i == [47, 46, 46]) = false := beq_eq_false_iff_ne.2 h6
    clear h6
    by_cases h7 : i = [46]
    · have t7 : (i == [46]) = true := beq_iff_eq.2 h7
      have T := dm_7 t1 t2 t3 t4 t5 t6 (.inl t7)
      have HR := dm_go HI.out hr T
      have hless := dm_less HI.out T
      have hlen := dm_len HI.out T
      simp only [List.append_nil, Bool.false_eq_true, if_false, if_true] at HR
      simp only [List.length_nil] at hlen
      clear T hr he t1 t2 t3 t4 t5 t6 t7
      subst h7
      go_wp2_with fail
      go_roundw
      case rel => exact ⟨[], o, rfl, rfl, by omega, HR, _, rfl⟩
      case measure => first | exact hless | decide
    have t7 : (i == [46]) = false := beq_eq_false_iff_ne.2 h7
    clear h7
    by_cases h8 : i = [46, 46]
    · have t8 : (i == [46, 46]) = true := beq_iff_eq.2 h8
      have T := dm_7 t1 t2 t3 t4 t5 t6 (.inr t8)
      have HR := dm_go HI.out hr T
      have hless := dm_less HI.out T
      have hlen := dm_len HI.out T
      simp only [List.append_nil, Bool.false_eq_true, if_false, if_true] at HR
      simp only [List.length_nil] at hlen
      clear T hr he t1 t2 t3 t4 t5 t6 t8 t7
      subst h8
      go_wp2_with fail
      go_roundw
      case rel => exact ⟨[], o, rfl, rfl, by omega, HR, _, rfl⟩
      case measure => first | exact hless | decide
    have t8 : (i == [46, 46]) = false := beq_eq_false_iff_ne.2 h8
    clear h8
    obtain ⟨m, hm1, hm2, hm3, hm4, hm5⟩ := dflt_upTo i HI.out
    have T := dm_8 t1 t2 t3 t4 t5 t6 t7 t8
    have HR := dm_go HI.out hr T
    have hless := dm_less HI.out T
    have hlen := dm_len HI.out T
    simp only [Bool.false_eq_true, if_false] at HR
    rw [hm5] at hless hlen HR
    rw [hm4] at hlen HR
    have hup : ∀ W : World, Calls Try.prog 28 #[.string (st i), .int .i64 1, .string ⟨#[47]⟩] W fun e w' => e = .returned (.int .i64 (m : Int)) ∧ ∃ n, w' = W.drewN n := by
      intro W
      have h := ref_upTo (st i) ⟨#[47]⟩ 1 W (by simp only [st_size]; omega) (by omega) (by decide)
      rw [show 1 + upToL (⟨#[47]⟩ : ByteArray).data.toList (List.drop 1 (st i).data.toList) = m from hm3] at h
      exact h
    have HUP := Lib.hid hup
    clear hup
    have hm6 : (m : Int) ≤ (st i).size := by simp only [st_size]; omega
    clear T hr he hm3 hm4 hm5
    go_wp2_with fail
    refine (HUP.out _).mono ?_
    rintro e w2 ⟨rfl, n2, rfl⟩
    go_wp2_with fail
    go_roundw
    case rel => exact ⟨i.drop m, o ++ i.take m, by rw [extract_suf]; rfl, by rw [extract_pre, app_st]; rfl, by rw [List.length_append, List.length_drop, List.length_take]; omega, HR, _, rfl⟩
    case measure => rw [strl_suf, strl_st]; rw [List.length_drop] at hless; exact hless
end Go.Proofs.Ytpagegjhihijcaa
