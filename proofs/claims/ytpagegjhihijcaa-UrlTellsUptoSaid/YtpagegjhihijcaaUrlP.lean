/- Contracts of the reference's words on links: SplitOf returns just what the plain Lean function says. Condition: a text of at most 2097152 bytes. -/
import Derived.Test.YtpagegjhihijcaaUrlC
import Derived.RegionTactic
import Derived.ChangeAlike
import Derived.Deep.CutBlock
namespace Go.Proofs.Ytpagegjhihijcaa
open Go.RowKit

/-- the state of SplitOf: what has been told. -/
structure SSt (w wk : World) (u : Mg.U) : Prop where
  below : Below w.heap.size w wk
  res : Blk wk w.heap.size 23 zCells
  uu : Blk wk (w.heap.size + 1) 23 (uCells u)
theorem SSt.start (w : World) : SSt w ((w.alloc (.cells zCells 23)).alloc (.cells zCells 23)) Mg.nilU := by
  have e1 : (w.alloc (.cells zCells 23)).heap.size = w.heap.size + 1 := by simp
  have b2 := Blk.new (w.alloc (.cells zCells 23)) 23 zCells
  rw [e1] at b2
  exact ⟨((Below.refl _ w).alloc (Nat.le_refl _) _).alloc (by omega) _, (Blk.new w 23 zCells).alloc _, b2⟩
section
variable {w wk : World} {u : Mg.U}
theorem SSt.drewN (h : SSt w wk u) (n : Nat) : SSt w (wk.drewN n) u := ⟨below_drewN h.below n, h.res.drewN n, h.uu.drewN n⟩
theorem SSt.drew (h : SSt w wk u) : SSt w wk.drew u := ⟨h.below.drew, h.res.drew, h.uu.drew⟩
theorem SSt.put (h : SSt w wk u) (i : Nat) (v : Value) (u' : Mg.U) (hu : (uCells u).setIfInBounds i v = uCells u') : SSt w (wk.setCell ⟨w.heap.size + 1, i, none⟩ v) u' :=
  ⟨h.below.setCell (by show _ ≤ w.heap.size + 1; omega) _, h.res.far (by show _ ≠ w.heap.size + 1; omega) _, by rw [← hu]; exact h.uu.set_ i v⟩
theorem SSt.facts (h : SSt w wk u) : (∀ i, wk.frozen? ⟨w.heap.size + 1, i, none⟩ = false) ∧ (∀ i, wk.frozen? ⟨w.heap.size, i, none⟩ = false) ∧ w.heap.size + 1 < wk.heap.size :=
  ⟨h.uu.frozen, h.res.frozen, h.uu.lt⟩
theorem SSt.ucell (h : SSt w wk u) (i : Nat) : wk.cell? ⟨w.heap.size + 1, i, none⟩ = (uCells u)[i]? := h.uu.cell i
theorem SSt.rcell (h : SSt w wk u) (i : Nat) : wk.cell? ⟨w.heap.size, i, none⟩ = zCells[i]? := h.res.cell i
end

theorem upTo_cut (stops : List UInt8) (q : UInt8 → Bool) (hq : ∀ c, stops.contains c = q c) (l : List UInt8) :
    l.take (upToL stops l) = Mg.upto q l ∧ l.drop (upToL stops l) = Mg.past q l := by
  have e : (fun c => !stops.contains c) = (fun c => !q c) := by funext c; rw [hq]
  unfold upToL Mg.upto Mg.past
  rw [e]
  constructor
  · have h := List.takeWhile_append_dropWhile (p := fun c => !q c) (l := l)
    conv => lhs; arg 2; rw [← h]
    rw [List.take_left']; rfl
  · have h := List.takeWhile_append_dropWhile (p := fun c => !q c) (l := l)
    conv => lhs; arg 2; rw [← h]
    rw [List.drop_left']; rfl
theorem ref_upTo2 (s p : ByteArray) (k : Nat) (q : UInt8 → Bool) (hq : ∀ c, p.data.toList.contains c = q c) (hk : k ≤ s.size) (hs : s.size ≤ 2097152) (hp : p.size ≤ 9223372036854775806) :
    ∃ m : Nat, k ≤ m ∧ m ≤ s.size ∧ Hid (s.extract k m = st (Mg.upto q (s.data.toList.drop k))) ∧ Hid (s.data.toList.drop m = Mg.past q (s.data.toList.drop k)) ∧
      ∀ w : World, Calls Try.prog 28 #[.string s, .int .i64 k, .string p] w fun e w' => e = .returned (.int .i64 (m : Int)) ∧ ∃ n, w' = w.drewN n := by
  obtain ⟨h1, h2⟩ := upTo_cut p.data.toList q hq (s.data.toList.drop k)
  have hl : upToL p.data.toList (s.data.toList.drop k) ≤ (s.data.toList.drop k).length := List.Sublist.length_le (List.takeWhile_sublist _)
  have hl2 : (s.data.toList.drop k).length = s.size - k := by simp
  refine ⟨k + upToL p.data.toList (s.data.toList.drop k), by omega, by omega, ?_, ?_, fun w => ref_upTo s p k w hk (by omega) hp⟩
  · show _ = _
    rw [extract_st, Nat.add_sub_cancel_left, h1]
  · show _ = _
    rw [← List.drop_drop, h2]

theorem ref_upTo3 (s p : ByteArray) (k : Nat) (q : UInt8 → Bool) (hq : ∀ c, p.data.toList.contains c = q c) (hk : k < s.size) (hc : s[k] ∉ p.data.toList) (hs : s.size ≤ 2097152) (hp : p.size ≤ 9223372036854775806) :
    ∃ m : Nat, k + 1 ≤ m ∧ m ≤ s.size ∧ Hid (s.extract (k + 1) m = st (Mg.upto q (s.data.toList.drop (k + 1)))) ∧ Hid (s.data.toList.drop m = Mg.past q (s.data.toList.drop (k + 1))) ∧
      ∀ w : World, Calls Try.prog 28 #[.string s, .int .i64 k, .string p] w fun e w' => e = .returned (.int .i64 (m : Int)) ∧ ∃ n, w' = w.drewN n := by
  obtain ⟨h1, h2⟩ := upTo_cut p.data.toList q hq (s.data.toList.drop (k + 1))
  have hl : upToL p.data.toList (s.data.toList.drop (k + 1)) ≤ (s.data.toList.drop (k + 1)).length := List.Sublist.length_le (List.takeWhile_sublist _)
  have hl2 : (s.data.toList.drop (k + 1)).length = s.size - (k + 1) := by simp
  have e0 : k + upToL p.data.toList (s.data.toList.drop k) = k + 1 + upToL p.data.toList (s.data.toList.drop (k + 1)) := by
    rw [bs_drop s k hk, upToL_miss _ _ _ hc]; omega
  refine ⟨k + 1 + upToL p.data.toList (s.data.toList.drop (k + 1)), by omega, by omega, ?_, ?_, fun w => ?_⟩
  · show _ = _
    rw [extract_st, Nat.add_sub_cancel_left, h1]
  · show _ = _
    rw [← List.drop_drop, h2]
  · have h := ref_upTo s p k w (by omega) (by omega) hp
    rwa [e0] at h
theorem isAt_drop (s : ByteArray) (m : Nat) (h : m < s.size) (c : UInt8) : Mg.isAt c (s.data.toList.drop m) = ((s[m].toNat : Int) == (c.toNat : Int)) := by
  rw [bs_drop s m h]
  show (s[m] == c) = _
  rw [Bool.eq_iff_iff, beq_iff_eq, beq_iff_eq]
  exact ⟨fun e => by rw [e], fun e => UInt8.toNat_inj.1 (by omega)⟩

set_option maxHeartbeats 1000000 in
theorem ref_SplitOf (s : ByteArray) (w : World) (hs : s.size ≤ 2097152) :
    Calls Try.prog 14 #[.string s] w fun e w' => e = .returned (uVal (Mg.split s.data.toList)) ∧ Below w.heap.size w w' := by
  have hp1 := SSt.start w
  go_enter Try.func14, Try.ntmps14
  go_wp2_with fail
  change Calls _ _ _ ((w.alloc (.cells zCells 23)).alloc (.cells zCells 23)) _
  generalize (w.alloc (.cells zCells 23)).alloc (.cells zCells 23) = w1 at hp1 ⊢
  refine (ref_schemeOf _ _ hs).mono ?_
  rintro e w1 ⟨rfl, rfl⟩
  obtain ⟨n, hn⟩ : ∃ n, Mg.schOf s.data.toList = n := ⟨_, rfl⟩
  have hn' : n ≠ 0 → n < s.size := by
    intro h
    have h1 := Mg.schOf_at s.data.toList (by rw [hn]; exact h)
    rw [hn] at h1
    have := (List.getElem?_eq_some_iff.1 h1).1
    simpa using this
  rw [hn]
  have HN := Lib.hid hn
  clear hn
  go_upto_if 10 with fail
  go_cut [4] (fun a wx => ∃ k : Nat, k ≤ s.size ∧ a = .int .i64 k ∧ Hid (s.data.toList.drop k = Mg.afterSch s.data.toList) ∧ SSt w wx { Mg.nilU with sch := if n = 0 then [] else s.data.toList.take n, hs := decide (n ≠ 0) })
  case first =>
    by_cases h0 : 0 < n
    · have hns := hn' (by omega)
      obtain ⟨f1, f2, f5⟩ := hp1.facts
      have c0 : w1.cell? ⟨w.heap.size + 1, 0, none⟩ = some (.string (st [])) := hp1.ucell 0
      have c5 : w1.cell? ⟨w.heap.size + 1, 5, none⟩ = some (.bool false) := hp1.ucell 5
      go_wp2_with fail
      go_region
      go_wp2_with fail
      go_meet
      case rel =>
        have hnz : n ≠ 0 := by omega
        have e1 : Mg.afterSch s.data.toList = s.data.toList.drop (n + 1) := by unfold Mg.afterSch; rw [HN.out, if_neg hnz]
        rw [if_neg hnz, decide_eq_true hnz, extract_pre]
        exact ⟨n + 1, by omega, by go_num, e1.symm, ((hp1.put 5 _ { Mg.nilU with hs := true } rfl).put 0 _ { Mg.nilU with sch := s.data.toList.take n, hs := true } rfl).drew⟩
    · have hnz : n = 0 := by omega
      have hd : decide (0 < n) = false := by simpa using h0
      have HZ := Lib.hid hnz
      clear hnz
      go_wp2_with fail
      go_meet
      case rel =>
        have hnz := HZ.out
        have e1 : Mg.afterSch s.data.toList = s.data.toList := by unfold Mg.afterSch; rw [HN.out, if_pos hnz]
        rw [if_pos hnz, decide_eq_false (by omega)]
        exact ⟨0, Nat.zero_le _, by rw [hnz], e1.symm, hp1⟩
  case rest =>
    obtain ⟨k, hk, rfl, hr, hp2⟩ := hcut
    clear hp1 hn'
    obtain ⟨r1, hr1⟩ : ∃ r, r = Mg.afterSch s.data.toList := ⟨_, rfl⟩
    obtain ⟨u1, hu1⟩ : ∃ u, u = ({ Mg.nilU with sch := if n = 0 then [] else s.data.toList.take n, hs := decide (n ≠ 0) } : Mg.U) := ⟨_, rfl⟩
    rw [← hr1] at hr
    rw [← hu1] at hp2
    have R1 := Lib.hid hr1; have U1 := Lib.hid hu1
    clear hr1 hu1
    go_wp2_with fail
    refine (ref_startsAt _ _ _ _ hk (by omega) (by decide)).mono ?_
    rintro e w2 ⟨rfl, rfl⟩
    rw [hr.out]
    have HS : Hid (Mg.sl2 r1 = Mg.pre (#[47, 47] : Array UInt8).toList r1) := rfl
    have hl : r1.length = s.size - k := by rw [← hr.out]; simp
    have HL := Lib.hid hl
    clear hl
    go_upto_if 20 with fail
    go_cut [4] (fun a wx => ∃ k : Nat, k ≤ s.size ∧ a = .int .i64 k ∧ Hid (s.data.toList.drop k = Mg.afterAu r1) ∧ SSt w wx { u1 with au := if Mg.sl2 r1 then Mg.upto Mg.stopA (r1.drop 2) else [], ha := Mg.sl2 r1 })
    case first =>
      cases hsl : Mg.pre [47, 47] r1 with
      | true =>
        have hsl2 : Mg.sl2 r1 = true := hsl
        have h2 := congrArg List.length (Mg.sl2_cut r1 hsl2)
        rw [List.length_append] at h2
        have h3 : ([47, 47] : List UInt8).length = 2 := rfl
        have hk2 : k + 2 ≤ s.size := by have := HL.out; omega
        obtain ⟨m, hm1, hm2, M1, M2, hup⟩ := ref_upTo2 s ⟨#[47, 63, 35]⟩ (k + 2) Mg.stopA stopA_chars hk2 hs (by decide)
        have e2 : s.data.toList.drop (k + 2) = r1.drop 2 := by rw [← hr.out, List.drop_drop]
        rw [e2] at M1 M2
        have HU := Lib.hid hup
        have HS2 := Lib.hid hsl2
        clear h2 h3 e2 hup hsl hsl2
        obtain ⟨f1, f2, f5⟩ := hp2.facts
        have c1 : wc.cell? ⟨w.heap.size + 1, 1, none⟩ = some (.string (st u1.au)) := hp2.ucell 1
        have c6 : wc.cell? ⟨w.heap.size + 1, 6, none⟩ = some (.bool u1.ha) := hp2.ucell 6
        go_wp2_with fail
        have a2 : (k : Int) + 2 = ((k + 2 : Nat) : Int) := by omega
        rw [a2]
        refine (HU.out _).mono ?_
        rintro e w3 ⟨rfl, nq, rfl⟩
        clear a2
        go_wp2_with fail
        go_region
        go_wp2_with fail
        go_meet
        case rel =>
          rw [HS2.out, if_pos rfl, Mg.afterAu, HS2.out, if_pos rfl]
          exact ⟨m, hm2, rfl, M2, ((hp2.drewN (nq + 1)).put 6 (.bool true) { u1 with ha := true } rfl).put 1 _ { u1 with ha := true, au := Mg.upto Mg.stopA (List.drop 2 r1) } (by rw [M1.out]; rfl)⟩
      | false =>
        have hsl2 : Mg.sl2 r1 = false := hsl
        have HS2 := Lib.hid hsl2
        clear hsl hsl2
        go_wp2_with fail
        go_meet
        case rel =>
          have hq : u1.au = [] ∧ u1.ha = false := by rw [U1.out]; exact ⟨rfl, rfl⟩
          rw [HS2.out, Mg.afterAu, HS2.out]
          refine ⟨k, hk, rfl, hr, ?_⟩
          obtain ⟨a, b, c, d, e, f, g, h, i⟩ := u1
          obtain ⟨rfl, rfl⟩ := hq
          exact hp2
    case rest =>
      obtain ⟨k2, hk2, rfl, hr2, hp3⟩ := hcut
      clear hp2 HL HS hr
      obtain ⟨r2, hr2'⟩ : ∃ r, r = Mg.afterAu r1 := ⟨_, rfl⟩
      obtain ⟨u2, hu2⟩ : ∃ u, u = ({ u1 with au := if Mg.sl2 r1 then Mg.upto Mg.stopA (r1.drop 2) else [], ha := Mg.sl2 r1 } : Mg.U) := ⟨_, rfl⟩
      rw [← hr2'] at hr2
      rw [← hu2] at hp3
      have R2 := Lib.hid hr2'; have U2 := Lib.hid hu2
      clear hr2' hu2
      obtain ⟨m, hm1, hm2, M1, M2, hup⟩ := ref_upTo2 s ⟨#[63, 35]⟩ k2 Mg.stopP stopP_chars hk2 hs (by decide)
      rw [hr2.out] at M1 M2
      have HU := Lib.hid hup
      clear hup
      obtain ⟨r3, hr3⟩ : ∃ r, r = Mg.past Mg.stopP r2 := ⟨_, rfl⟩
      obtain ⟨u3, hu3⟩ : ∃ u, u = ({ u2 with pa := Mg.upto Mg.stopP r2 } : Mg.U) := ⟨_, rfl⟩
      rw [← hr3] at M2
      have R3 := Lib.hid hr3; have U3 := Lib.hid hu3
      clear hr3 hu3
      obtain ⟨f1, f2, f5⟩ := hp3.facts
      have c2 : wc.cell? ⟨w.heap.size + 1, 2, none⟩ = some (.string (st u2.pa)) := hp3.ucell 2
      go_wp2_with fail
      refine (HU.out _).mono ?_
      rintro e w3 ⟨rfl, nq, rfl⟩
      have hpp : SSt w ((wc.drewN nq).setCell ⟨w.heap.size + 1, 2, none⟩ (.string (s.extract k2 m))) u3 := (hp3.drewN nq).put 2 _ u3 (by rw [M1.out, U3.out]; rfl)
      go_upto_region 13 with fail
      generalize (wc.drewN nq).setCell ⟨w.heap.size + 1, 2, none⟩ (.string (s.extract k2 m)) = w3 at hpp ⊢
      clear c2 f1 f2 f5 hp3 HU M1
      go_cut [51] (fun b wx => b = .bool (Mg.isAt 63 r3) ∧ w3 = wx)
      case first =>
        by_cases hlt : m < s.size
        · have hb : Mg.isAt 63 r3 = ((s[m].toNat : Int) == 63) := by rw [← M2.out]; exact isAt_drop s m hlt 63
          have HB := Lib.hid hb
          clear hb
          go_wp2_with fail
          go_meet
          case rel => exact ⟨by rw [HB.out], rfl⟩
        · have hb : Mg.isAt 63 r3 = false := by rw [← M2.out, List.drop_of_length_le (by simp; omega)]; rfl
          have HB := Lib.hid hb
          clear hb
          go_wp2_with fail
          go_meet
          case rel => exact ⟨by rw [HB.out], rfl⟩
      case rest =>
        obtain ⟨rfl, rfl⟩ := hcut
        go_upto_if 51 with fail
        go_cut [4] (fun a wx => ∃ k : Nat, k ≤ s.size ∧ a = .int .i64 k ∧ Hid (s.data.toList.drop k = Mg.afterQu r3) ∧ SSt w wx { u3 with qu := if Mg.isAt 63 r3 then Mg.upto Mg.stopQ r3.tail else [], hq := Mg.isAt 63 r3 })
        case first =>
          cases hsl : Mg.isAt 63 r3 with
          | true =>
            have HS2 := Lib.hid hsl
            have hml : m < s.size := by
              rcases Nat.lt_or_ge m s.size with h | h
              · exact h
              · rw [← M2.out, List.drop_of_length_le (by simp; omega)] at hsl; cases hsl
            have hdr : s.data.toList.drop (m + 1) = r3.tail := by rw [← M2.out, List.tail_drop]
            have hne : s[m] ∉ ([35] : List UInt8) := by
              have h := isAt_drop s m hml 63
              rw [M2.out, hsl] at h
              have h1 : (s[m].toNat : Int) = 63 := by simpa using h.symm
              intro h2
              have h3 : s[m] = 35 := by simpa using h2
              rw [h3] at h1
              exact absurd h1 (by decide)
            obtain ⟨j, hj1, hj2, J1, J2, hup⟩ := ref_upTo3 s ⟨#[35]⟩ m Mg.stopQ stopQ_chars hml hne hs (by decide)
            rw [hdr] at J1 J2
            have HU := Lib.hid hup
            clear hup hsl hdr hne
            obtain ⟨f1, f2, f5⟩ := hpp.facts
            have c3 : w3.cell? ⟨w.heap.size + 1, 3, none⟩ = some (.string (st u3.qu)) := hpp.ucell 3
            have c7 : w3.cell? ⟨w.heap.size + 1, 7, none⟩ = some (.bool u3.hq) := hpp.ucell 7
            go_wp2_with fail
            refine (HU.out _).mono ?_
            rintro e w4 ⟨rfl, n2, rfl⟩
            go_wp2_with fail
            go_region
            go_wp2_with fail
            go_meet
            case rel =>
              rw [Mg.afterQu, HS2.out, if_pos rfl, if_pos rfl]
              exact ⟨j, hj2, rfl, J2, ((hpp.drewN (n2 + 1)).put 7 (.bool true) { u3 with hq := true } rfl).put 3 _ { u3 with hq := true, qu := Mg.upto Mg.stopQ r3.tail } (by rw [J1.out]; rfl)⟩
          | false =>
            have HS2 := Lib.hid hsl
            clear hsl
            go_wp2_with fail
            go_meet
            case rel =>
              have hq : u3.qu = [] ∧ u3.hq = false := by rw [U3.out, U2.out, U1.out]; exact ⟨rfl, rfl⟩
              rw [Mg.afterQu, HS2.out]
              refine ⟨m, hm2, rfl, M2, ?_⟩
              obtain ⟨a, b, c, d, e, f, g, h, i⟩ := u3
              obtain ⟨rfl, rfl⟩ := hq
              exact hpp
        case rest =>
          obtain ⟨k4, hk4, rfl, hr4, hp4⟩ := hcut
          obtain ⟨r4, hr4'⟩ : ∃ r, r = Mg.afterQu r3 := ⟨_, rfl⟩
          obtain ⟨u4, hu4⟩ : ∃ u, u = ({ u3 with qu := if Mg.isAt 63 r3 then Mg.upto Mg.stopQ r3.tail else [], hq := Mg.isAt 63 r3 } : Mg.U) := ⟨_, rfl⟩
          rw [← hr4'] at hr4
          rw [← hu4] at hp4
          have R4 := Lib.hid hr4'; have U4 := Lib.hid hu4
          clear hr4' hu4 hpp
          go_upto_if 66 with fail
          have hfr : r4.tail = (if Mg.isAt 35 r4 then r4.tail else []) := by
            rw [R4.out, R3.out]; exact (fr_eq r2).symm
          have hfin : ({ u4 with fr := if Mg.isAt 35 r4 then r4.tail else [], hf := Mg.isAt 35 r4 } : Mg.U) = Mg.split s.data.toList := by
            have h1 := R1.out; have h2 := R2.out; have h3 := R3.out; have h4 := R4.out; have h5 := HN.out
            rw [← hfr]
            subst h5; subst h1; subst h2; subst h3; subst h4
            rw [U4.out, U3.out, U2.out, U1.out]
            rfl
          have HF := Lib.hid hfin
          have h35 := Mg.r4_form r3 (by
            intro c t e
            rcases Mg.past_head Mg.stopP r2 with h0 | ⟨c', t', e', hc⟩
            · rw [R3.out, h0] at e; cases e
            · rw [R3.out, e'] at e; injection e with e _; subst e; exact hc)
          rw [← R4.out] at h35
          have H35 := Lib.hid h35
          clear hfr hfin h35
          go_cut [] (fun wx => SSt w wx (Mg.split s.data.toList))
          case first =>
            by_cases hlt : k4 < s.size
            · have hat : Mg.isAt 35 r4 = true := by
                rcases H35.out with h | h
                · have := congrArg List.length h
                  rw [← hr4.out] at this
                  simp at this; omega
                · exact h
              have hdr : s.data.toList.drop (k4 + 1) = r4.tail := by rw [← hr4.out, List.tail_drop]
              have HA := Lib.hid hat
              have HD := Lib.hid hdr
              clear hat hdr
              obtain ⟨f1, f2, f5⟩ := hp4.facts
              have c4 : wc.cell? ⟨w.heap.size + 1, 4, none⟩ = some (.string (st u4.fr)) := hp4.ucell 4
              have c8 : wc.cell? ⟨w.heap.size + 1, 8, none⟩ = some (.bool u4.hf) := hp4.ucell 8
              go_wp2_with fail
              go_region
              go_wp2_with fail
              go_meet
              case rel =>
                rw [← HF.out, HA.out, if_pos rfl]
                exact ((hp4.put 8 (.bool true) { u4 with hf := true } rfl).put 4 _ { u4 with hf := true, fr := r4.tail } (by rw [extract_suf, HD.out]; rfl)).drew
            · have hn4 : r4 = [] := by rw [← hr4.out]; exact List.drop_of_length_le (by simp; omega)
              have hat : Mg.isAt 35 r4 = false := by rw [hn4]; rfl
              have hd : decide (k4 < s.size) = false := by simpa using hlt
              have HA := Lib.hid hat
              clear hn4 hat
              go_wp2_with fail
              go_meet
              case rel =>
                have hq : u4.fr = [] ∧ u4.hf = false := by rw [U4.out, U3.out, U2.out, U1.out]; exact ⟨rfl, rfl⟩
                rw [← HF.out, HA.out]
                obtain ⟨a, b, c, d, e, f, g, h, i⟩ := u4
                obtain ⟨rfl, rfl⟩ := hq
                exact hp4
          case rest =>
            clear hp4 hr4 HF H35
            have hp8 := hcut
            clear hcut
            obtain ⟨u5, hu5⟩ : ∃ u, u = Mg.split s.data.toList := ⟨_, rfl⟩
            rw [← hu5] at hp8
            have HU5 := Lib.hid hu5
            clear hu5
            have d0 : wc.cell? ⟨w.heap.size + 1, 0, none⟩ = some (.string (st u5.sch)) := hp8.ucell 0
            have d1 : wc.cell? ⟨w.heap.size + 1, 1, none⟩ = some (.string (st u5.au)) := hp8.ucell 1
            have d2 : wc.cell? ⟨w.heap.size + 1, 2, none⟩ = some (.string (st u5.pa)) := hp8.ucell 2
            have d3 : wc.cell? ⟨w.heap.size + 1, 3, none⟩ = some (.string (st u5.qu)) := hp8.ucell 3
            have d4 : wc.cell? ⟨w.heap.size + 1, 4, none⟩ = some (.string (st u5.fr)) := hp8.ucell 4
            have d5 : wc.cell? ⟨w.heap.size + 1, 5, none⟩ = some (.bool u5.hs) := hp8.ucell 5
            have d6 : wc.cell? ⟨w.heap.size + 1, 6, none⟩ = some (.bool u5.ha) := hp8.ucell 6
            have d7 : wc.cell? ⟨w.heap.size + 1, 7, none⟩ = some (.bool u5.hq) := hp8.ucell 7
            have d8 : wc.cell? ⟨w.heap.size + 1, 8, none⟩ = some (.bool u5.hf) := hp8.ucell 8
            have z0 : wc.cell? ⟨w.heap.size, 0, none⟩ = some (.string (st [])) := hp8.rcell 0
            have z1 : wc.cell? ⟨w.heap.size, 1, none⟩ = some (.string (st [])) := hp8.rcell 1
            have z2 : wc.cell? ⟨w.heap.size, 2, none⟩ = some (.string (st [])) := hp8.rcell 2
            have z3 : wc.cell? ⟨w.heap.size, 3, none⟩ = some (.string (st [])) := hp8.rcell 3
            have z4 : wc.cell? ⟨w.heap.size, 4, none⟩ = some (.string (st [])) := hp8.rcell 4
            have z5 : wc.cell? ⟨w.heap.size, 5, none⟩ = some (.bool false) := hp8.rcell 5
            have z6 : wc.cell? ⟨w.heap.size, 6, none⟩ = some (.bool false) := hp8.rcell 6
            have z7 : wc.cell? ⟨w.heap.size, 7, none⟩ = some (.bool false) := hp8.rcell 7
            have z8 : wc.cell? ⟨w.heap.size, 8, none⟩ = some (.bool false) := hp8.rcell 8
            have y0 : wc.frozen? ⟨w.heap.size, 0, none⟩ = false := hp8.res.frozen 0
            have y1 : wc.frozen? ⟨w.heap.size, 1, none⟩ = false := hp8.res.frozen 1
            have y2 : wc.frozen? ⟨w.heap.size, 2, none⟩ = false := hp8.res.frozen 2
            have y3 : wc.frozen? ⟨w.heap.size, 3, none⟩ = false := hp8.res.frozen 3
            have y4 : wc.frozen? ⟨w.heap.size, 4, none⟩ = false := hp8.res.frozen 4
            have y5 : wc.frozen? ⟨w.heap.size, 5, none⟩ = false := hp8.res.frozen 5
            have y6 : wc.frozen? ⟨w.heap.size, 6, none⟩ = false := hp8.res.frozen 6
            have y7 : wc.frozen? ⟨w.heap.size, 7, none⟩ = false := hp8.res.frozen 7
            have y8 : wc.frozen? ⟨w.heap.size, 8, none⟩ = false := hp8.res.frozen 8
            go_wp2_with fail
            refine bodyPost_ret (v := uVal u5) (by simp [results, Try.results14, go_sem, *]; rfl) rfl ⟨by rw [HU5.out], ?_⟩
            exact ((((((((hp8.below.setCell (Nat.le_refl _) _).setCell (Nat.le_refl _) _).setCell (Nat.le_refl _) _).setCell (Nat.le_refl _) _).setCell (Nat.le_refl _) _).setCell (Nat.le_refl _) _).setCell (Nat.le_refl _) _).setCell (Nat.le_refl _) _).setCell (Nat.le_refl _) _
end Go.Proofs.Ytpagegjhihijcaa
