/- Contracts of the program's token.Check and Build at tokens that are right, Read and Flat. -/
import Derived.Test.YteidgdpaolieaaaGreatDoorZMkHtml
import Derived.Test.YteidgdpaolieaaaGreatDoorZMkSame
import Derived.Test.YteidgdpaolieaaaGreatDoorZMkClean2
namespace Mk
theorem adj_at : ∀ (l : List Tok) (p : Bool) (j : Nat) (t u : Tok), Adj p l → l[j]? = some t → l[j + 1]? = some u → u.kind = 1 → t.kind ≠ 1
  | [], _, _, _, _, _, h, _, _ => by simp at h
  | a :: r, p, 0, t, u, ha, h1, h2, hk => by
    have e : a = t := by simpa using h1
    subst e
    cases r with
    | nil => simp at h2
    | cons b r =>
      have e : b = u := by simpa using h2
      subst e
      have := ha.2.1 hk
      simpa using this
  | a :: r, p, j + 1, t, u, ha, h1, h2, hk => adj_at r _ j t u ha.2 (by simpa using h1) (by simpa using h2) hk
theorem name_len {n : Bs} (h : isName n = true) : n.length ≤ 20 := by
  unfold isName at h
  rw [Bool.and_eq_true, Bool.and_eq_true] at h
  exact of_decide_eq_true h.1.2
end Mk
namespace Go.Proofs.YteidgdpaolieaaaGreatDoor
open Go.RowKit
set_option maxHeartbeats 4000000 in
set_option maxRecDepth 100000 in
theorem tk_one (t : Mk.Tok) (ht : Mk.Bld.TokOk t) (va : Value) (K : Nat → Prop) (w : World) (hva : AtsV w K va t.ats) (hK : ∀ b, K b → b < w.heap.size) (hb : Mk.Fo.atB t.ats ≤ 1048576) :
    Calls Tryz.prog 87 #[tokV t va] w fun e w' => e = .returned (.int .i64 0) ∧ Below w.heap.size w w' := by
  have hst : ∀ l : List UInt8, (st l).toList = l := fun l => Lib.toList_data _
  have hll := Mk.atB_len t.ats
  obtain ⟨kd, nm, ats, tx⟩ := t
  obtain ⟨aot, capt, hva1, hva2⟩ := id hva
  subst hva1
  unfold tokV
  simp only at *
  have hal := (Below.refl w.heap.size w).alloc (Nat.le_refl _) (.cells #[.int .i64 kd, .string (st nm), .slice aot ats.length capt, .string (st tx)] 94)
  have AL := Lib.hid hal
  rcases ht with ⟨k, h1, h2, h3⟩ | ⟨k, h1, h2, h3⟩ | ⟨k, h1, h2, h3⟩
  · simp only at k h1 h2 h3
    subst k
    subst h1
    subst h2
    have ht2 : tx.isEmpty = false := by cases tx with | nil => exact absurd rfl h3 | cons _ _ => rfl
    clear hva hva2 hal h3
    go_enter Tryz.func87, Tryz.ntmps87
    go_wp2_with fail
    go_ret
    exact ⟨rfl, AL.out⟩
  · simp only at k h1 h2 h3
    subst k
    subst h3
    have hn := Mk.name_len h1
    have hnm := fun W => mk_Name (st nm) W (by rw [st_size]; omega)
    rw [bs_st, h1] at hnm
    have HN := Lib.hid hnm
    have HA := Lib.hid (mk_Attrs ats _ K _ (hva.below hK hal) (fun b q => Nat.lt_of_lt_of_le (hK b q) hal.size) (Nat.le_trans hb (by decide)))
    rw [h2] at HA
    clear hva hva2 hal h1 h2 hnm
    go_enter Tryz.func87, Tryz.ntmps87
    go_wp2_with fail
    refine (HN.out _).mono ?_
    rintro e w2 ⟨rfl, rfl⟩
    go_wp2_with fail
    refine HA.out.mono ?_
    rintro e w3 ⟨rfl, hb3⟩
    have B3 := Lib.hid (AL.out.trans (hb3.mono AL.out.size))
    clear hb3 HA
    go_wp2_with fail
    go_ret
    exact ⟨rfl, B3.out⟩
  · simp only at k h1 h2 h3
    subst k
    subst h3
    subst h2
    have hn := Mk.name_len h1
    have hnm := fun W => mk_Name (st nm) W (by rw [st_size]; omega)
    rw [bs_st, h1] at hnm
    have HN := Lib.hid hnm
    have HA := Lib.hid (mk_Attrs [] _ K _ (hva.below hK hal) (fun b q => Nat.lt_of_lt_of_le (hK b q) hal.size) (Nat.le_trans hb (by decide)))
    rw [show Mk.checkAts Mk.isName [] [] = 0 from rfl] at HA
    clear hva hva2 hal h1 hnm
    go_enter Tryz.func87, Tryz.ntmps87
    go_wp2_with fail
    refine (HN.out _).mono ?_
    rintro e w2 ⟨rfl, rfl⟩
    go_wp2_with fail
    refine HA.out.mono ?_
    rintro e w3 ⟨rfl, hb3⟩
    have B3 := Lib.hid (AL.out.trans (hb3.mono AL.out.size))
    clear hb3 HA
    go_wp2_with fail
    go_ret
    exact ⟨rfl, B3.out⟩
set_option maxHeartbeats 4000000 in
set_option maxRecDepth 100000 in
theorem tk_Check (l : List Mk.Tok) (v : Value) (K : Nat → Prop) (w : World) (hv : ToksV w K v l) (hK : ∀ b, K b → b < w.heap.size) (hl : l.length ≤ 3000) (hok : ∀ t ∈ l, Mk.Bld.TokOk t ∧ Mk.Fo.atB t.ats ≤ 1048576) (ha : Mk.Adj false l) :
    Calls Tryz.prog 52 #[v] w fun e w' => e = .returned (.int .i64 0) ∧ Below w.heap.size w w' := by
  obtain ⟨ao, cap, hv1, hlm, hat⟩ := hv.at_
  subst hv1
  have HAT := Lib.hid hat
  have HK := Lib.hid hK
  have HOK := Lib.hid hok
  have HAD := Lib.hid ha
  have h30 : ¬ 3000 < (l.length : Int) := by omega
  clear hv hat hK hok ha
  go_enter Tryz.func52, Tryz.ntmps52
  go_wp2_with fail
  go_loopw [11] (fun i wr => ∃ k : Nat, k ≤ l.length ∧ i = .int .i64 k ∧ Hid (Below w.heap.size w wr)) (fun i _ => l.length - (intOf i).toNat)
  case atStart => exact ⟨0, Nat.zero_le _, rfl, Below.refl _ _⟩
  case round =>
    obtain ⟨k, hk, rfl, HBL⟩ := hrel
    by_cases hlt : k < l.length
    · obtain ⟨t, hkt⟩ : ∃ t, l[k]? = some t := ⟨_, List.getElem?_eq_getElem hlt⟩
      obtain ⟨g, o, aot, capt, hao, hKg, hva, y0, y1, y2, y3⟩ := HAT.out k t hkt
      subst hao
      have hgl := HK.out g hKg
      rw [← HBL.out.cell (p := ⟨g, _, none⟩) hgl] at y0 y1 y2 y3
      obtain ⟨ok1, ok2⟩ := HOK.out t (List.mem_of_getElem? hkt)
      have hal := (Below.refl wr.heap.size wr).alloc (Nat.le_refl _) (.cells #[.int .i64 t.kind, .string (st t.name), .slice aot t.ats.length capt, .string (st t.text)] 94)
      have hBL1 := HBL.out.trans (hal.mono HBL.out.size)
      have HONE := Lib.hid (tk_one t ok1 (.slice aot t.ats.length capt) K _ (hva.frame (fun b q => ⟨q, hBL1.block b (HK.out b q)⟩)) (fun b q => Nat.lt_of_lt_of_le (HK.out b q) hBL1.size) ok2)
      have HBL1 := Lib.hid hBL1
      have PB := Lib.hid (Blk.new wr 94 #[.int .i64 t.kind, .string (st t.name), .slice aot t.ats.length capt, .string (st t.text)])
      have HPREV : Hid (k = 0 ∨ t.kind ≠ 1 ∨ ∃ kj, (kj == 1) = false ∧ 0 < k ∧ w.cell? ⟨g, o + (k - 1) * 4, none⟩ = some (.int .i64 kj)) := by
        cases k with
        | zero => exact .inl rfl
        | succ j =>
          by_cases hk1 : t.kind = 1
          · obtain ⟨u, hju⟩ : ∃ u, l[j]? = some u := ⟨_, List.getElem?_eq_getElem (by omega)⟩
            have hne := Mk.adj_at l false j u t HAD.out hju hkt hk1
            obtain ⟨g', o', aou, capu, hao', _, _, x0, _, _, _⟩ := HAT.out j u hju
            injection hao' with hao'
            injection hao' with e1 e2
            subst e1
            subst e2
            refine .inr (.inr ⟨u.kind, beq_eq_false_iff_ne.2 hne, Nat.succ_pos _, ?_⟩)
            rw [Nat.add_sub_cancel]
            exact x0
          · exact .inr (.inl hk1)
      clear hBL1 hal hva HBL ok1 ok2 hkt
      unfold tokV at HONE
      go_upto_region 6 with fail
      generalize (wr.alloc (.cells #[.int .i64 t.kind, .string (st t.name), .slice aot t.ats.length capt, .string (st t.text)] 94)) = w1 at HONE HBL1 PB ⊢
      have z0 : w1.cell? ⟨wr.heap.size, 0, none⟩ = some (.int .i64 t.kind) := Blk.cell PB.out 0
      have z1 : w1.cell? ⟨wr.heap.size, 1, none⟩ = some (.string (st t.name)) := Blk.cell PB.out 1
      have z2 : w1.cell? ⟨wr.heap.size, 2, none⟩ = some (.slice aot t.ats.length capt) := Blk.cell PB.out 2
      have z3 : w1.cell? ⟨wr.heap.size, 3, none⟩ = some (.string (st t.text)) := Blk.cell PB.out 3
      clear y0 y1 y2 y3
      go_wp2_with fail
      refine HONE.out.mono ?_
      rintro e w2 ⟨rfl, hb2⟩
      have B2 := Lib.hid (HBL1.out.trans (hb2.mono HBL1.out.size))
      rw [← hb2.cell (p := ⟨wr.heap.size, _, none⟩) (Blk.lt PB.out)] at z0
      clear z1 z2 z3 hb2 HONE HBL1 PB
      generalize t.kind = kd at z0 HPREV
      rcases HPREV.out with h0 | h1 | ⟨kj, h1, h2, h3⟩
      · subst h0
        clear HPREV
        go_wp2_with fail
        go_roundw
        case rel => exact ⟨1, by omega, by go_num, B2.out⟩
        case measure => simp [intOf]; omega
      · have hkb : (kd == 1) = false := beq_eq_false_iff_ne.2 h1
        by_cases h0 : 0 < k
        · have h0i : (0 : Int) < k := by omega
          clear HPREV h1
          go_wp2_with fail
          go_roundw
          case rel => exact ⟨k + 1, by omega, by go_num, B2.out⟩
          case measure => simp [intOf]; omega
        · have h0i : ¬ (0 : Int) < k := by omega
          clear HPREV h1
          go_wp2_with fail
          go_roundw
          case rel => exact ⟨k + 1, by omega, by go_num, B2.out⟩
          case measure => simp [intOf]; omega
      · rw [← B2.out.cell (p := ⟨g, _, none⟩) hgl] at h3
        obtain ⟨j, rfl⟩ : ∃ j, k = j + 1 := ⟨k - 1, by omega⟩
        rw [Nat.add_sub_cancel] at h3
        have h0i : (0 : Int) < ((j + 1 : Nat) : Int) := by omega
        have hj1 : (((j + 1 : Nat) : Int) - 1) = (j : Int) := by omega
        have hj2 : (j : Int) < l.length := by omega
        clear HPREV
        go_wp2_with fail
        all_goals
          go_roundw
          case rel => exact ⟨j + 1 + 1, by omega, by go_num, B2.out⟩
          case measure => simp [intOf]; omega
    · have : k = l.length := by omega
      subst this
      go_wp2_with fail
      go_ret
      exact ⟨rfl, HBL.out⟩
set_option maxHeartbeats 4000000 in
set_option maxRecDepth 100000 in
theorem tr_Build (l : List Mk.Tok) (v : Value) (K : Nat → Prop) (w : World) (hv : ToksV w K v l) (hK : ∀ b, K b → b < w.heap.size) (hl : l.length ≤ 3000) (hok : ∀ t ∈ l, Mk.Bld.TokOk t ∧ Mk.Fo.atB t.ats ≤ 1048576) (ha : Mk.Adj false l) (hb : Mk.Bld.tokB l ≤ 549755813000) :
    Calls Tryz.prog 23 #[v] w fun e w' => ∃ v', e = .returned (.tuple #[v', .int .i64 0]) ∧ FoV w' (fun g => w.heap.size ≤ g ∧ g < w'.heap.size) v' (Mk.build l) ∧ Below w.heap.size w w' := by
  have HC := Lib.hid (tk_Check l v K w hv hK hl hok ha)
  have HV := Lib.hid hv
  have HK := Lib.hid hK
  obtain ⟨ao, cap, hv1, hlm, hat⟩ := hv.at_
  subst hv1
  clear hv hK hat hok ha
  go_enter Tryz.func23, Tryz.ntmps23
  go_wp2_with fail
  refine HC.out.mono ?_
  rintro e w1 ⟨rfl, hb1⟩
  have B1 := Lib.hid hb1
  have HO := Lib.hid (tr_Of l _ K w1 (HV.out.frame (fun b q => ⟨q, hb1.block b (HK.out b q)⟩)) (fun b q => Nat.lt_of_lt_of_le (HK.out b q) hb1.size) hb)
  clear hb1 HC
  go_wp2_with fail
  refine HO.out.mono ?_
  rintro e w2 ⟨v2, rfl, hv2, hb2⟩
  have HV2 : Hid (FoV w2 (fun g => w.heap.size ≤ g ∧ g < w2.heap.size) v2 (Mk.build l)) := hv2.frame (fun b q => ⟨⟨Nat.le_trans B1.out.size q.1, q.2⟩, rfl⟩)
  have B2 := Lib.hid (B1.out.trans (hb2.mono B1.out.size))
  clear hv2 hb2 HO
  go_wp2_with fail
  go_ret2
  exact ⟨v2, rfl, HV2.out, B2.out⟩
set_option maxHeartbeats 4000000 in
set_option maxRecDepth 100000 in
theorem tk_Read (s : List UInt8) (w : World) (hg : Gl w) (hs : s.length ≤ 3000) :
    Calls Tryz.prog 22 #[.string (st s)] w fun e w' => ∃ v, e = .returned (.tuple #[v, .int .i64 0]) ∧ ToksV w' (fun b => w.heap.size ≤ b ∧ b < w'.heap.size) v (Mk.toks s) ∧ Below w.heap.size w w' := by
  have HA := Lib.hid (mk_All (st s) w hg (by rw [st_size]; omega))
  have h2 : ¬ 3000 < (st s).size := by rw [st_size]; omega
  go_enter Tryz.func22, Tryz.ntmps22
  go_wp2_with fail
  refine HA.out.mono ?_
  rintro e w1 ⟨v1, rfl, hv1, hb1⟩
  have HV1 := Lib.hid hv1
  have B1 := Lib.hid hb1
  clear hv1 hb1 HA
  go_wp2_with fail
  go_ret2
  exact ⟨v1, rfl, HV1.out, B1.out⟩
set_option maxHeartbeats 4000000 in
set_option maxRecDepth 100000 in
theorem tr_Flat (f : Mk.Fo) (v : Value) (K : Nat → Prop) (w : World) (hf : f.bulk ≤ 1048576) (hc : Mk.checkT f = 0) (hv : FoV w K v f) (hK : ∀ b, K b → b < w.heap.size) :
    Calls Tryz.prog 42 #[v] w fun e w' => ∃ ao cap, e = .returned (.tuple #[.slice ao (Mk.flat f).length cap, .int .i64 0]) ∧ Below w.heap.size w w' := by
  have HC := Lib.hid (tr_Check f v K w (Nat.le_trans hf (by decide)) hv hK)
  rw [hc] at HC
  have HV := Lib.hid hv
  have HK := Lib.hid hK
  obtain ⟨ao, cap, xs, hv1, _⟩ := hv
  subst hv1
  clear hK hc
  go_enter Tryz.func42, Tryz.ntmps42
  go_wp2_with fail
  refine HC.out.mono ?_
  rintro e w1 ⟨rfl, hb1⟩
  have B1 := Lib.hid hb1
  have HO := Lib.hid (tr_Tokens (f.bulk + 1) f (Nat.lt_succ_self _) (by omega) _ K w1 (HV.out.below HK.out hb1) (fun b q => Nat.lt_of_lt_of_le (HK.out b q) hb1.size))
  clear hb1 HC
  go_wp2_with fail
  refine HO.out.mono ?_
  rintro e w2 ⟨v2, xs2, rfl, hv2, _, hb2⟩
  obtain ⟨ao2, cap2, hv3, _⟩ := hv2.toksV.at_
  subst hv3
  have B2 := Lib.hid (B1.out.trans (hb2.mono B1.out.size))
  clear hv2 hb2 HO
  go_wp2_with fail
  go_ret2
  exact ⟨ao2, cap2, rfl, B2.out⟩
end Go.Proofs.YteidgdpaolieaaaGreatDoor

/- Contracts of the program's safe and Is: is all clean in a tree. Condition: at most 33554432 nodes, attributes and letters. -/
namespace Mk
def badOne (n : Bs) (a : List At) (k : Fo) : Bool := (decide (n ≠ []) && (!allowedB n || badAts n a || (decide (n = [105, 109, 103]) && !hasAt a [115, 114, 99]))) || !safeF k
theorem safe_node (n : Bs) (a : List At) (t : Bs) (k r : Fo) : safeF (.node n a t k r) = (!badOne n a k && safeF r) := rfl
theorem atB_val {a : At} {l : List At} (h : a ∈ l) : a.v.length ≤ Fo.atB l := by
  have := atB_mem h
  omega
/-- is one of some nodes bad? -/
def anyBad : Fo → Bool | .nil => false | .node n a _ k r => badOne n a k || anyBad r
theorem safe_any : ∀ f : Fo, safeF f = !anyBad f
  | .nil => rfl
  | .node n a t k r => by
    rw [safe_node, safe_any r]
    show _ = !(badOne n a k || anyBad r)
    cases badOne n a k <;> rfl
end Mk
namespace Go.Proofs.YteidgdpaolieaaaGreatDoor
open Go.RowKit
theorem asks_bad (P : Nat) (n : List UInt8) (l : List Mk.At) (w : World) (hP : P < w.heap.size) (hc : w.cell? ⟨P, 0, none⟩ = some (.string (st n))) (hv : ∀ a ∈ l, a.v.length ≤ 33554432) : AsksA 60 #[.pointer (some ⟨P, 0, none⟩)] (fun a => !Mk.mayB n a.n || (Mk.linkB a.n && !Mk.goodLink a.v)) l w := by
  intro w1 hb a ha
  have hva := hv a ha
  have c0 : w1.cell? ⟨P, 0, none⟩ = some (.string (st n)) := (hb.cell (p := ⟨P, 0, none⟩) hP).trans hc
  have hP1 : P < w1.heap.size := Nat.lt_of_lt_of_le hP hb.size
  have hal := (Below.refl w1.heap.size w1).alloc (Nat.le_refl _) (.cells #[.string (st a.n), .string (st a.v)] 58)
  have PB := Lib.hid (Blk.new w1 58 #[.string (st a.n), .string (st a.v)])
  have c1 : (w1.alloc (.cells #[.string (st a.n), .string (st a.v)] 58)).cell? ⟨P, 0, none⟩ = some (.string (st n)) := (hal.cell (p := ⟨P, 0, none⟩) hP1).trans c0
  have HA := Lib.hid (cl_attr n a (w1.alloc (.cells #[.string (st a.n), .string (st a.v)] 58)))
  have HL := Lib.hid (fun W => cl_link a.n W)
  have HI := Lib.hid (fun W => url_Is (st a.v) W (by rw [st_size]; omega))
  have hlen : (st a.v).size = a.v.length := st_size _
  have HAL := Lib.hid hal
  clear hal hc hv hva c0
  unfold atV at HA
  unfold atV
  go_enter Tryz.func60, Tryz.ntmps60
  go_wp2_with fail
  refine HA.out.mono ?_
  rintro e w2 ⟨rfl, hb2⟩
  have HB2 := Lib.hid (HAL.out.trans (hb2.mono HAL.out.size))
  have PB2 := Lib.hid (Blk.below PB.out hb2 (Blk.lt PB.out))
  clear hb2 HA PB HAL c1
  obtain ⟨bm, hbm⟩ : ∃ b, Mk.mayB n a.n = b := ⟨_, rfl⟩
  have HBM := Lib.hid hbm
  rw [hbm]
  clear hbm
  cases bm with
  | false =>
    go_wp2_with fail
    go_ret
    exact ⟨ret_bool (by rw [HBM.out]; rfl), HB2.out⟩
  | true =>
    have p0 : w2.cell? ⟨w1.heap.size, 0, none⟩ = some (.string (st a.n)) := Blk.cell PB2.out 0
    have p1 : w2.cell? ⟨w1.heap.size, 1, none⟩ = some (.string (st a.v)) := Blk.cell PB2.out 1
    obtain ⟨bl, hbl⟩ : ∃ b, Mk.linkB a.n = b := ⟨_, rfl⟩
    rw [hbl] at HL
    have HBN := Lib.hid hbl
    clear hbl
    go_wp2_with fail
    refine (HL.out _).mono ?_
    rintro e w3 ⟨rfl, hw3⟩
    subst w3
    cases bl with
    | false =>
      go_wp2_with fail
      go_ret
      exact ⟨ret_bool (by rw [HBM.out, HBN.out]; rfl), HB2.out⟩
    | true =>
      go_wp2_with fail
      refine (HI.out _).mono ?_
      rintro e w4 ⟨rfl, hb4⟩
      have p4 : w4.cell? ⟨w1.heap.size, 1, none⟩ = some (.string (st a.v)) := (hb4.cell (p := ⟨w1.heap.size, 1, none⟩) (Blk.lt PB2.out)).trans p1
      have HB4 := Lib.hid (HB2.out.trans (hb4.mono HB2.out.size))
      rw [show (st a.v).data.toList = a.v from rfl]
      have hgl : Mk.goodLink a.v = (Mg.isSafe a.v && decide (a.v.length ≤ 3000)) := rfl
      obtain ⟨bs, hbs⟩ : ∃ b, Mg.isSafe a.v = b := ⟨_, rfl⟩
      rw [hbs] at hgl ⊢
      clear hbs HB2 hb4 HI HL PB2 p0 p1
      cases bs with
      | false =>
        have HG := Lib.hid hgl
        clear hgl
        go_wp2_with fail
        go_ret
        exact ⟨ret_bool (by rw [HBM.out, HBN.out, HG.out]; rfl), HB4.out⟩
      | true =>
        by_cases hl : 3000 < a.v.length
        · have HG : Hid (Mk.goodLink a.v = false) := by show _ = _; rw [hgl]; simp; omega
          clear hgl
          go_wp2_with fail
          go_ret
          exact ⟨ret_bool (by rw [HBM.out, HBN.out, HG.out]; first | rfl | simp; omega), HB4.out⟩
        · have HG : Hid (Mk.goodLink a.v = true) := by show _ = _; rw [hgl]; simp; omega
          clear hgl
          go_wp2_with fail
          go_ret
          exact ⟨ret_bool (by rw [HBM.out, HBN.out, HG.out]; first | rfl | simp; omega), HB4.out⟩
theorem eg_bad (args : Array Value) (w : World) : (callFunc 60 args).run Tryz.prog w = .ok (.enter 60 args) w := run_callFunc_enter' Tryz.func60 (by kernel_rfl) rfl _ _
end Go.Proofs.YteidgdpaolieaaaGreatDoor

/- Contracts of the program's safe and Is, behind those of slices.IndexFunc and slices.ContainsFunc over nodes. Condition: at most 33554432 nodes, attributes and letters. -/
namespace Go.Proofs.YteidgdpaolieaaaGreatDoor
open Go.RowKit
def SafeC (f : Mk.Fo) : Prop := ∀ (v : Value) (K : Nat → Prop) (w : World), FoV w K v f → (∀ b, K b → b < w.heap.size) → Calls Tryz.prog 27 #[v] w fun e w' => e = .returned (.bool (Mk.safeF f)) ∧ Below w.heap.size w w'
theorem eg_safe1 (args : Array Value) (w : World) : (callFunc 58 args).run Tryz.prog w = .ok (.enter 58 args) w := run_callFunc_enter' Tryz.func58 (by kernel_rfl) rfl _ _
set_option maxHeartbeats 4000000 in
set_option maxRecDepth 100000 in
theorem cl_safe1 (n t : List UInt8) (a : List Mk.At) (k : Mk.Fo) (hk : SafeC k) (va vk : Value) (K : Nat → Prop) (w : World) (hva : AtsV w K va a) (hvk : FoV w K vk k) (hK : ∀ b, K b → b < w.heap.size) (ha : Mk.Fo.atB a ≤ 33554432) :
    Calls Tryz.prog 58 #[nodeV n va t vk] w fun e w' => e = .returned (.bool (Mk.badOne n a k)) ∧ Below w.heap.size w w' := by
  have hst : ∀ l : List UInt8, (st l).toList = l := fun l => Lib.toList_data _
  obtain ⟨aoa, capa, hva1, _⟩ := id hva
  obtain ⟨aok, capk, xsk, hvk1, _⟩ := id hvk
  subst hva1
  subst hvk1
  have hal := (Below.refl w.heap.size w).alloc (Nat.le_refl _) (.cells #[.string (st n), .slice aoa a.length capa, .string (st t), .slice aok k.len capk] 52)
  have PB := Blk.new w 52 #[.string (st n), .slice aoa a.length capa, .string (st t), .slice aok k.len capk]
  have hatl := Mk.atB_len a
  have HCF := Lib.hid (sl_ContainsFunc 60 #[.pointer (some ⟨w.heap.size, 0, none⟩)] (fun a => !Mk.mayB n a.n || (Mk.linkB a.n && !Mk.goodLink a.v)) eg_bad a (.slice aoa a.length capa) K (w.alloc (.cells #[.string (st n), .slice aoa a.length capa, .string (st t), .slice aok k.len capk] 52)) (hva.below hK hal) (fun b q => Nat.lt_of_lt_of_le (hK b q) hal.size) (by omega) (asks_bad w.heap.size n a _ PB.lt (PB.cell 0) (fun x hx => by have := Mk.atB_val hx; omega)))
  have HBA : Hid (a.any (fun a => !Mk.mayB n a.n || (Mk.linkB a.n && !Mk.goodLink a.v)) = Mk.badAts n a) := rfl
  have HBO : Hid (Mk.badOne n a k = ((decide (n ≠ []) && (!Mk.allowedB n || Mk.badAts n a || (decide (n = [105, 109, 103]) && !Mk.hasAt a [115, 114, 99]))) || !Mk.safeF k)) := rfl
  have HPB := Lib.hid PB
  have HAL := Lib.hid hal
  have HVA := Lib.hid hva
  have HVK := Lib.hid hvk
  have HK := Lib.hid hK
  have HSK := Lib.hid hk
  have hne : (n = [] ∧ n.isEmpty = true) ∨ (n ≠ [] ∧ n.isEmpty = false) := by
    cases n with
    | nil => exact .inl ⟨rfl, rfl⟩
    | cons _ _ => exact .inr ⟨by simp, rfl⟩
  have him : (n = [105, 109, 103] ∧ (n == [105, 109, 103]) = true) ∨ (n ≠ [105, 109, 103] ∧ (n == [105, 109, 103]) = false) := by
    by_cases h : n = [105, 109, 103]
    · exact .inl ⟨h, beq_iff_eq.2 h⟩
    · exact .inr ⟨h, beq_eq_false_iff_ne.2 h⟩
  have HNE := Lib.hid hne
  have HIM := Lib.hid him
  clear hva hvk hK hk hal PB hne him
  unfold nodeV
  go_enter Tryz.func58, Tryz.ntmps58
  go_wp2_with fail
  refine HCF.out.mono ?_
  rintro e w2 ⟨rfl, hb2⟩
  rw [HBA.out]
  have HB2 := Lib.hid (HAL.out.trans (hb2.mono HAL.out.size))
  have hP2 := Blk.below HPB.out hb2 (Blk.lt HPB.out)
  have HP2 := Lib.hid hP2
  have p0 : w2.cell? ⟨w.heap.size, 0, none⟩ = some (.string (st n)) := Blk.cell hP2 0
  have p3 : w2.cell? ⟨w.heap.size, 3, none⟩ = some (.slice aok k.len capk) := Blk.cell hP2 3
  clear hb2 HCF HPB hP2
  -- the kids
  have HTAIL : Hid (∀ W, Below w.heap.size w W → Calls Tryz.prog 27 #[.slice aok k.len capk] W fun e w' => e = .returned (.bool (Mk.safeF k)) ∧ Below w.heap.size w w') := fun W hW => (HSK.out (.slice aok k.len capk) K W (HVK.out.below HK.out hW) (fun b q => Nat.lt_of_lt_of_le (HK.out b q) hW.size)).mono (fun e w' ⟨h1, h2⟩ => ⟨h1, hW.trans (h2.mono hW.size)⟩)
  obtain ⟨bb, hbb⟩ : ∃ b, Mk.badAts n a = b := ⟨_, rfl⟩
  obtain ⟨bk, hbk⟩ : ∃ b, Mk.safeF k = b := ⟨_, rfl⟩
  rw [hbk] at HTAIL
  rw [hbb, hbk] at HBO
  rw [hbb]
  clear hbb hbk
  rcases HNE.out with ⟨hn, he⟩ | ⟨hn, he⟩
  · have HQ : Hid (Mk.badOne n a k = !bk) := by show _ = _; rw [HBO.out, hn]; rfl
    clear hn HBO
    go_wp2_with fail
    refine (HTAIL.out _ HB2.out).mono ?_
    rintro e w3 ⟨rfl, hb3⟩
    have HB3 := Lib.hid hb3
    clear hb3 HTAIL
    go_wp2_with fail
    go_ret
    exact ⟨ret_bool (by rw [HQ.out]), HB3.out⟩
  · have HQ : Hid (Mk.badOne n a k = ((!Mk.allowedB n || bb || (decide (n = [105, 109, 103]) && !Mk.hasAt a [115, 114, 99])) || !bk)) := by show _ = _; rw [HBO.out, show decide (n ≠ []) = true from decide_eq_true hn]; rfl
    have HALW := Lib.hid (cl_allowed n w2)
    obtain ⟨bw, hbw⟩ : ∃ b, Mk.allowedB n = b := ⟨_, rfl⟩
    rw [hbw] at HALW HQ
    clear hn hbw HBO
    go_wp2_with fail
    refine HALW.out.mono ?_
    rintro e w3 ⟨rfl, hb3⟩
    have HB3 := Lib.hid (HB2.out.trans (hb3.mono HB2.out.size))
    have hP3 := Blk.below HP2.out hb3 (Blk.lt HP2.out)
    have q0 : w3.cell? ⟨w.heap.size, 0, none⟩ = some (.string (st n)) := Blk.cell hP3 0
    have q1 : w3.cell? ⟨w.heap.size, 1, none⟩ = some (.slice aoa a.length capa) := Blk.cell hP3 1
    have q3 : w3.cell? ⟨w.heap.size, 3, none⟩ = some (.slice aok k.len capk) := Blk.cell hP3 3
    have HP3 := Lib.hid hP3
    clear hb3 HALW hP3 HB2 HP2 p0 p3
    cases bw with
    | false =>
      have HQ2 : Hid (Mk.badOne n a k = true) := by show _ = _; rw [HQ.out]; rfl
      clear HQ HTAIL
      go_wp2_with fail
      go_ret
      exact ⟨ret_bool (by rw [HQ2.out]), HB3.out⟩
    | true =>
      cases bb with
      | true =>
        have HQ2 : Hid (Mk.badOne n a k = true) := by show _ = _; rw [HQ.out]; rfl
        clear HQ HTAIL
        go_wp2_with fail
        go_ret
        exact ⟨ret_bool (by rw [HQ2.out]), HB3.out⟩
      | false =>
        rcases HIM.out with ⟨hi, hie⟩ | ⟨hi, hie⟩
        · have HHA := Lib.hid (cl_has a [115, 114, 99] (.slice aoa a.length capa) K w3 (HVA.out.below HK.out HB3.out) (fun b q => Nat.lt_of_lt_of_le (HK.out b q) HB3.out.size) (by omega))
          obtain ⟨bh, hbh⟩ : ∃ b, Mk.hasAt a [115, 114, 99] = b := ⟨_, rfl⟩
          rw [hbh] at HHA HQ
          have HQ2 : Hid (Mk.badOne n a k = (!bh || !bk)) := by show _ = _; rw [HQ.out, show decide (n = [105, 109, 103]) = true from decide_eq_true hi]; cases bh <;> rfl
          clear HQ hi hbh
          go_wp2_with fail
          refine HHA.out.mono ?_
          rintro e w4 ⟨rfl, hb4⟩
          have HB4 := Lib.hid (HB3.out.trans (hb4.mono HB3.out.size))
          have r3 : w4.cell? ⟨w.heap.size, 3, none⟩ = some (.slice aok k.len capk) := (hb4.cell (p := ⟨w.heap.size, 3, none⟩) (Blk.lt HP3.out)).trans q3
          clear hb4 HHA HB3 HP3 q0 q1 q3
          cases bh with
          | false =>
            have HQ3 : Hid (Mk.badOne n a k = true) := by show _ = _; rw [HQ2.out]; rfl
            clear HQ2 HTAIL
            go_wp2_with fail
            go_ret
            exact ⟨ret_bool (by rw [HQ3.out]), HB4.out⟩
          | true =>
            have HQ3 : Hid (Mk.badOne n a k = !bk) := by show _ = _; rw [HQ2.out]; rfl
            clear HQ2
            go_wp2_with fail
            refine (HTAIL.out _ HB4.out).mono ?_
            rintro e w5 ⟨rfl, hb5⟩
            have HB5 := Lib.hid hb5
            clear hb5 HTAIL
            go_wp2_with fail
            go_ret
            exact ⟨ret_bool (by rw [HQ3.out]), HB5.out⟩
        · have HQ3 : Hid (Mk.badOne n a k = !bk) := by show _ = _; rw [HQ.out, show decide (n = [105, 109, 103]) = false from decide_eq_false hi]; rfl
          clear HQ hi
          go_wp2_with fail
          refine (HTAIL.out _ HB3.out).mono ?_
          rintro e w5 ⟨rfl, hb5⟩
          have HB5 := Lib.hid hb5
          clear hb5 HTAIL q0 q1 q3 HB3 HP3
          go_wp2_with fail
          go_ret
          exact ⟨ret_bool (by rw [HQ3.out]), HB5.out⟩
set_option maxHeartbeats 2000000 in
theorem sn_IndexFunc (f : Mk.Fo) (hsub : ∀ k n a t kk r, f.drop k = .node n a t kk r → SafeC kk) (hb : f.bulk ≤ 33554432) (v : Value) (K : Nat → Prop) (w : World) (hv : FoV w K v f) (hK : ∀ b, K b → b < w.heap.size) :
    Calls Tryz.prog 99 #[v, .func (.func 58) #[] #[]] w fun e w' => ∃ i : Int, e = .returned (.int .i64 i) ∧ (decide (0 ≤ i) = Mk.anyBad f) ∧ Below w.heap.size w w' := by
  obtain ⟨g, o, cap, hv1, hlen, hat⟩ := hv.at_
  have HAT := Lib.hid hat
  have HSB := Lib.hid hsub
  have eg := eg_safe1
  have hgl := Mk.Fo.len_bulk f
  clear hat hsub hv
  rcases hv1 with ⟨hv1, hKg⟩ | ⟨ao, hv1, hnil⟩
  · subst hv1
    have hgm := hK g hKg
    go_enter Tryz.func99, Tryz.ntmps99
    go_wp2_with fail
    go_loopw [8] (fun i wr => ∃ k : Nat, k ≤ f.len ∧ i = .int .i64 k ∧ Hid (Mk.anyBad f = Mk.anyBad (f.drop k)) ∧ Hid (Below w.heap.size w wr)) (fun i _ => f.len - (intOf i).toNat)
    case atStart => exact ⟨0, Nat.zero_le _, rfl, by show _ = _; rw [Mk.Fo.drop_zero], Below.refl _ _⟩
    case round =>
      obtain ⟨k, hk, rfl, HA, BL⟩ := hrel
      by_cases hlt : k < f.len
      · obtain ⟨n, a, t, kk, r, hd, hd1⟩ := Mk.Fo.drop_lt f k hlt
        obtain ⟨va, vk, c0, c1, c2, c3, hva, hvk⟩ := HAT.out k n a t kk r hd
        rw [← BL.out.cell (p := ⟨g, _, none⟩) hgm] at c0 c1 c2 c3
        obtain ⟨aoa, capa, hva1, _⟩ := id hva
        obtain ⟨aok, capk, xsk, hvk1, _⟩ := id hvk
        subst hva1
        subst hvk1
        have hdb : (f.drop k).bulk = 1 + n.length + t.length + Mk.Fo.atB a + kk.bulk + r.bulk := by rw [hd]; rfl
        have hdb2 := Mk.Fo.drop_bulk f k
        have hcall := cl_safe1 n t a kk (HSB.out k n a t kk r hd) (.slice aoa a.length capa) (.slice aok kk.len capk) K wr (hva.below hK BL.out) (hvk.below hK BL.out) (fun b q => Nat.lt_of_lt_of_le (hK b q) BL.out.size) (by omega)
        have HD : Hid (Mk.anyBad f = (Mk.badOne n a kk || Mk.anyBad (f.drop (k + 1)))) := by show _ = _; rw [HA.out, hd, hd1]; rfl
        generalize Mk.badOne n a kk = bb at hcall HD
        unfold nodeV at hcall
        have HCALL := Lib.hid hcall
        clear hcall HAT HSB hva hvk hd hd1 hdb hdb2
        cases bb with
        | true =>
          go_wp2_with fail
          refine HCALL.out.mono ?_
          rintro e w1 ⟨rfl, hb1⟩
          have BL1 := BL.out.trans (hb1.mono BL.out.size)
          go_wp2_with fail
          go_ret
          exact ⟨k, rfl, by rw [HD.out, Bool.true_or]; simp, BL1⟩
        | false =>
          go_wp2_with fail
          refine HCALL.out.mono ?_
          rintro e w1 ⟨rfl, hb1⟩
          have BL1 := BL.out.trans (hb1.mono BL.out.size)
          go_wp2_with fail
          go_roundw
          case rel => exact ⟨k + 1, by omega, by go_num, by show _ = _; rw [HD.out, Bool.false_or], BL1⟩
          case measure => simp [intOf]; omega
      · have hkl : k = f.len := by omega
        have HN : Hid (Mk.anyBad f = false) := by show _ = _; rw [HA.out, hkl, Mk.Fo.drop_len]; rfl
        clear HA HAT HSB
        go_wp2_with fail
        go_ret
        exact ⟨-1, rfl, by rw [HN.out]; rfl, BL.out⟩
  · subst hnil
    subst hv1
    clear HAT HSB
    go_enter Tryz.func99, Tryz.ntmps99
    go_wp2_with fail
    go_loopw [8] (fun i wr => i = .int .i64 0 ∧ wr = w) (fun _ _ => 0)
    case atStart => exact ⟨rfl, rfl⟩
    case round =>
      obtain ⟨rfl, rfl⟩ := hrel
      go_wp2_with fail
      go_ret
      exact ⟨-1, rfl, rfl, Below.refl _ _⟩
set_option maxHeartbeats 2000000 in
theorem cl_safe (N : Nat) : ∀ f : Mk.Fo, f.bulk < N → f.bulk ≤ 33554432 → SafeC f := by
  induction N with
  | zero => intro f hN; omega
  | succ N ih =>
    intro f hN hb v K w hv hK
    have HI := Lib.hid (sn_IndexFunc f (fun k n a t kk r hd => ih kk (by have h1 := Mk.Fo.drop_bulk f k; rw [hd] at h1; have e : Mk.Fo.bulk (.node n a t kk r) = 1 + n.length + t.length + Mk.Fo.atB a + Mk.Fo.bulk kk + Mk.Fo.bulk r := rfl; omega) (by have h1 := Mk.Fo.drop_bulk f k; rw [hd] at h1; have e : Mk.Fo.bulk (.node n a t kk r) = 1 + n.length + t.length + Mk.Fo.atB a + Mk.Fo.bulk kk + Mk.Fo.bulk r := rfl; omega)) hb v K w hv hK)
    have HCN : Hid (Calls Tryz.prog 57 #[v, .func (.func 58) #[] #[]] w fun e w' => e = .returned (.bool (Mk.anyBad f)) ∧ Below w.heap.size w w') := by
      show Calls _ _ _ _ _
      go_enter Tryz.func57, Tryz.ntmps57
      go_wp2_with fail
      refine HI.out.mono ?_
      rintro e w1 ⟨i, rfl, hi, hb⟩
      have HB := Lib.hid hb
      have H2 := Lib.hid hi
      clear hb hi
      go_wp2_with fail
      go_ret
      exact ⟨ret_bool H2.out, HB.out⟩
    have HSA := Lib.hid (Mk.safe_any f)
    clear hv hK ih HI
    go_enter Tryz.func27, Tryz.ntmps27
    go_wp2_with fail
    refine HCN.out.mono ?_
    rintro e w1 ⟨rfl, hb1⟩
    have HB := Lib.hid hb1
    clear hb1 HCN
    go_wp2_with fail
    go_ret
    exact ⟨ret_bool (by rw [HSA.out]), HB.out⟩
set_option maxHeartbeats 1000000 in
theorem cl_Is (f : Mk.Fo) (v : Value) (K : Nat → Prop) (w : World) (hf : f.bulk ≤ 33554432) (hv : FoV w K v f) (hK : ∀ b, K b → b < w.heap.size) :
    Calls Tryz.prog 8 #[v] w fun e w' => e = .returned (.tuple #[.bool (decide (Mk.checkT f = 0) && Mk.safeF f), .int .i64 (Mk.checkT f)]) ∧ Below w.heap.size w w' := by
  have HC := Lib.hid (tr_Check f v K w hf hv hK)
  have HV := Lib.hid hv
  have HK := Lib.hid hK
  obtain ⟨ao, cap, xs, hv1, _⟩ := hv
  subst hv1
  generalize Mk.checkT f = c at HC
  clear hK
  go_enter Tryz.func8, Tryz.ntmps8
  go_wp2_with fail
  refine HC.out.mono ?_
  rintro e w1 ⟨rfl, hb1⟩
  have L1 := Lib.hid hb1
  clear HC hb1
  by_cases hc : c = 0
  · subst hc
    have HS := Lib.hid (cl_safe (f.bulk + 1) f (Nat.lt_succ_self _) hf (.slice ao f.len cap) K w1 (HV.out.below HK.out L1.out) (fun b q => Nat.lt_of_lt_of_le (HK.out b q) L1.out.size))
    go_wp2_with fail
    refine HS.out.mono ?_
    rintro e w2 ⟨rfl, hb2⟩
    have L2 := Lib.hid (L1.out.trans (hb2.mono L1.out.size))
    clear HS hb2
    go_wp2_with fail
    go_ret2
    exact ⟨by simp, L2.out⟩
  · have hcb : (c == 0) = false := beq_eq_false_iff_ne.2 hc
    have HC2 := Lib.hid hc
    clear hc
    go_wp2_with fail
    go_ret2
    exact ⟨by have := HC2.out; simp [this], L1.out⟩
end Go.Proofs.YteidgdpaolieaaaGreatDoor

/- Contract of the law's cleanBegun: what must be in any case, is. -/
namespace Mk
def base0 : Bs := [104, 116, 116, 112, 58, 47, 47, 97, 47, 98]
def s0 : Bs := [60, 115, 101, 99, 116, 105, 111, 110, 62, 60, 112, 32, 111, 110, 99, 108, 105, 99, 107, 61, 120, 62, 97, 60, 115, 99, 114, 105, 112, 116, 62, 98, 60, 47, 115, 99, 114, 105, 112, 116, 62, 60, 97, 32, 104, 114, 101, 102, 61, 99, 62, 100, 60, 47, 97, 62, 60, 97, 32, 104, 114, 101, 102, 61, 39, 106, 97, 118, 97, 115, 99, 114, 105, 112, 116, 58, 101, 39, 62, 102, 60, 47, 97, 62, 60, 105, 109, 103, 62, 103]
def want0 : Bs := [60, 112, 62, 97, 60, 97, 32, 104, 114, 101, 102, 61, 34, 104, 116, 116, 112, 58, 47, 47, 97, 47, 99, 34, 62, 100, 60, 47, 97, 62, 60, 97, 62, 102, 60, 47, 97, 62, 103, 60, 47, 112, 62]
set_option maxRecDepth 100000
theorem html0 : html base0 s0 = want0 := by decide +kernel
theorem fits0 : Fits base0 s0 := ⟨by decide, by decide +kernel, by decide +kernel, by decide +kernel, by rw [html0]; decide⟩
def short (s : Bs) : Bool := decide (s.length < 32) && s.all fun b => (reps.lookup b).isNone
def tokShort (t : Tok) : Bool := short t.text && t.ats.all fun a => short a.v
theorem flat0 : (flat (clean base0 (build (toks s0)))).all tokShort = true := by decide +kernel
theorem page_check : checkT page = 0 := by decide +kernel
theorem page_clean : clean [] page = page := by decide +kernel
theorem page_safe : safeF page = true := by decide +kernel
def script : Fo := .node [115, 99, 114, 105, 112, 116] [] [] .nil .nil
theorem script_check : checkT script = 0 := by decide +kernel
theorem script_safe : safeF script = false := by decide +kernel
end Mk
namespace Go.Proofs.YteidgdpaolieaaaGreatDoor
open Go.RowKit
theorem tells_of {s : List UInt8} (h : Mk.short s = true) : Tells s := by
  unfold Mk.short at h
  rw [Bool.and_eq_true, decide_eq_true_iff, List.all_eq_true] at h
  exact tells_short s h.1 (fun b hb => Option.isNone_iff_eq_none.1 (h.2 b hb))
theorem tells0 : ∀ t ∈ Mk.flat (Mk.clean Mk.base0 (Mk.build (Mk.toks Mk.s0))), TokTells t := by
  intro t ht
  have h := List.all_eq_true.1 Mk.flat0 t ht
  unfold Mk.tokShort at h
  rw [Bool.and_eq_true, List.all_eq_true] at h
  exact ⟨fun _ => tells_of h.1, fun a ha => tells_of (h.2 a ha)⟩
set_option maxHeartbeats 4000000 in
set_option maxRecDepth 100000 in
theorem lw_cleanBegun (w : World) (hg : Gl w) :
    Calls Tryz.prog 14 #[] w fun e w' => e = .returned (.bool true) ∧ Below w.heap.size w w' := by
  have hlt := hg.lt
  have HH := Lib.hid (cl_Html Mk.base0 Mk.s0 w hg (by decide) Mk.fits0 tells0)
  rw [Mk.html0, show Mk.want0 = [60, 112, 62, 97, 60, 97, 32, 104, 114, 101, 102, 61, 34, 104, 116, 116, 112, 58, 47, 47, 97, 47, 99, 34, 62, 100, 60, 47, 97, 62, 60, 97, 62, 102, 60, 47, 97, 62, 103, 60, 47, 112, 62] from rfl] at HH
  go_enter Tryz.func14, Tryz.ntmps14
  go_wp2_with fail
  refine HH.out.mono ?_
  rintro e w1 ⟨rfl, hb1⟩
  have B1 := Lib.hid hb1
  clear HH hb1
  go_wp2_with fail
  refine (lw_page w1).mono ?_
  rintro e w2 ⟨v2, rfl, hv2, hb2⟩
  have B2 := Lib.hid (B1.out.trans (hb2.mono B1.out.size))
  have HT := Lib.hid (cl_Tree [] Mk.page v2 _ w2 (by decide) hv2 (fun b q => q.2))
  clear hb2 hv2
  go_wp2_with fail
  refine HT.out.mono ?_
  rintro e w3 ⟨v3, c, rfl, hc, _, hv3, hb3⟩
  rw [Mk.page_check, if_neg (by decide), if_neg (by decide)] at hc
  subst hc
  have hv3 := hv3 rfl
  rw [Mk.page_clean] at hv3
  have B3 := Lib.hid (B2.out.trans (hb3.mono B2.out.size))
  have HV3 : Hid (FoV w3 (fun b => b < w3.heap.size) v3 Mk.page) := hv3.frame (fun b q => ⟨q.elim (fun q => Nat.lt_of_lt_of_le q.2 hb3.size) (fun q => q.2), rfl⟩)
  obtain ⟨ao3, cap3, xs3, hv3s, _⟩ := hv3
  subst hv3s
  clear hb3 HT
  go_wp2_with fail
  refine (lw_page w3).mono ?_
  rintro e w4 ⟨v4, rfl, hv4, hb4⟩
  have B4 := Lib.hid (B3.out.trans (hb4.mono B3.out.size))
  have HI := Lib.hid (cl_Is Mk.page v4 _ w4 (by decide) hv4 (fun b q => q.2))
  rw [Mk.page_check, Mk.page_safe, show (decide ((0 : Int) = 0) && true) = true from rfl] at HI
  have HV4 : Hid (FoV w4 (fun b => b < w4.heap.size) (.slice ao3 Mk.page.len cap3) Mk.page) := HV3.out.frame (fun b q => ⟨Nat.lt_of_lt_of_le q hb4.size, hb4.block b q⟩)
  clear hb4 hv4 HV3
  go_wp2_with fail
  refine HI.out.mono ?_
  rintro e w5 ⟨rfl, hb5⟩
  have B5 := Lib.hid (B4.out.trans (hb5.mono B4.out.size))
  have HV5 : Hid (FoV w5 (fun b => b < w5.heap.size) (.slice ao3 Mk.page.len cap3) Mk.page) := HV4.out.frame (fun b q => ⟨Nat.lt_of_lt_of_le q hb5.size, hb5.block b q⟩)
  clear hb5 HI HV4
  have hal := (Below.refl w5.heap.size w5).alloc (Nat.le_refl _) (.cells (nodeCells [115, 99, 114, 105, 112, 116] [] (.slice none 0 0) ++ []).toArray 52)
  have HS : FoV (w5.alloc (.cells (nodeCells [115, 99, 114, 105, 112, 116] [] (.slice none 0 0) ++ []).toArray 52)) (fun b => b = w5.heap.size) (.slice (some ⟨w5.heap.size, 0, none⟩) 1 1) Mk.script := FoV.of_blk (K := fun b => b = w5.heap.size) (f := Mk.script) (Blk.new w5 52 (nodeCells [115, 99, 114, 105, 112, 116] [] (.slice none 0 0) ++ []).toArray) rfl (FCells.one (k := .nil) (r := .nil) (FoV.nil0 _ _) (FCells.nil0 _ _)) (by decide)
  have HI := Lib.hid (cl_Is Mk.script _ _ _ (by decide) HS (fun b q => by subst q; simp))
  rw [Mk.script_check, Mk.script_safe, show (decide ((0 : Int) = 0) && false) = false from rfl] at HI
  have HAL := Lib.hid hal
  clear hal HS
  go_wp2_with fail
  refine HI.out.mono ?_
  rintro e w6 ⟨rfl, hb6⟩
  have L6 := Lib.hid (HAL.out.trans (hb6.mono HAL.out.size))
  have B6 := Lib.hid (B5.out.trans (L6.out.mono B5.out.size))
  have HV6 : Hid (FoV w6 (fun b => b < w6.heap.size) (.slice ao3 Mk.page.len cap3) Mk.page) := HV5.out.frame (fun b q => ⟨Nat.lt_of_lt_of_le q L6.out.size, L6.out.block b q⟩)
  clear hb6 HI HV5
  have hst : ∀ l : List UInt8, (st l).toList = l := fun l => Lib.toList_data _
  clear hv3 B5 B4 B3 B2 B1 HAL L6
  go_wp2_with fail
  refine (lw_page w6).mono ?_
  rintro e w7 ⟨v7, rfl, hv7, hb7⟩
  have B7 := Lib.hid (B6.out.trans (hb7.mono B6.out.size))
  have HV7 : FoV w7 (fun b => b < w7.heap.size) (.slice ao3 Mk.page.len cap3) Mk.page := HV6.out.frame (fun b q => ⟨Nat.lt_of_lt_of_le q hb7.size, hb7.block b q⟩)
  have HSN := Lib.hid (rf_SameNodes (Mk.page.bulk + 1) Mk.page (Nat.lt_succ_self _) (by decide) _ v7 _ _ w7 HV7 hv7 (fun b q => q) (fun b q => q.2))
  clear hb7 hv7 HV7 HV6 B6
  go_wp2_with fail
  refine HSN.out.mono ?_
  rintro e w8 ⟨rfl, hb8⟩
  have B8 := Lib.hid (B7.out.trans (hb8.mono B7.out.size))
  clear hb8 HSN B7
  go_wp2_with fail
  go_ret
  exact ⟨rfl, B8.out⟩
/-- the law: all text stays. -/
theorem lw_CleanText (base : List UInt8) (f : Mk.Fo) (v : Value) (K : Nat → Prop) (w : World) (hg : Gl w) (hf : f.bulk ≤ 1048576) (hv : FoV w K v f) (hK : ∀ b, K b → b < w.heap.size) :
    Calls Tryz.prog 4 #[.string (st base), v] w fun e w' => e = .returned (.bool true) ∧ Below w.heap.size w w' := by
  have hlt := hg.lt
  have HT := Lib.hid (cl_Tree base f v K w (Nat.le_trans hf (by decide)) hv hK)
  have HV := Lib.hid hv
  have HK := Lib.hid hK
  have HG := Lib.hid hg
  have hr := Mk.checkT_right f
  have HR : Hid (Mk.checkT f = 0 → Mk.textIn false (Mk.clean base f) = Mk.textIn true f) := fun h => Mk.clean_text base f (hr h)
  have HCB := Lib.hid (Mk.cleanOn_bulk base f .nil).1
  clear hr hv hK hg
  go_enter Tryz.func4, Tryz.ntmps4
  go_wp2_with fail
  refine HT.out.mono ?_
  rintro e w1 ⟨v1, c, rfl, hc, hc1, hc0, hb1⟩
  have B1 := Lib.hid hb1
  have HC1 := Lib.hid hc1
  have HC0 := Lib.hid hc0
  have HC := Lib.hid hc
  have HBG := Lib.hid (lw_cleanBegun w1 (HG.out.below hb1 hlt))
  clear hb1 hc1 hc0 hc HT
  go_wp2_with fail
  refine HBG.out.mono ?_
  rintro e w2 ⟨rfl, hb2⟩
  have B2 := Lib.hid (B1.out.trans (hb2.mono B1.out.size))
  by_cases h0 : c = 0
  · subst h0
    have hck : Mk.checkT f = 0 := by
      have h := HC.out
      by_cases hk : Mk.checkT f = 0
      · exact hk
      · rw [if_pos hk] at h; exact absurd h.symm hk
    have hv1 := HC0.out rfl
    have hl1 : (Mk.clean base f).bulk ≤ 3001 * f.bulk := by
      have h := HCB.out
      have e : Mk.Fo.bulk .nil = 0 := rfl
      rw [e] at h
      exact Nat.le_trans h (by omega)
    have HT1 := Lib.hid (lw_textIn ((Mk.clean base f).bulk + 1) (Mk.clean base f) (Nat.lt_succ_self _) (by omega) false v1 _ w2 (hv1.frame (K' := fun b => b < w2.heap.size) (fun b q => by
      have hb : b < w1.heap.size := q.elim (fun q => Nat.lt_of_lt_of_le (HK.out b q) B1.out.size) (fun q => q.2)
      exact ⟨Nat.lt_of_lt_of_le hb hb2.size, hb2.block b hb⟩)) (fun b q => q))
    have HEQ := Lib.hid (HR.out hck)
    rw [HEQ.out] at HT1
    obtain ⟨ao1, cap1, xs1, hv1s, _⟩ := hv1
    subst hv1s
    clear hb2 HBG hck HC0 HC1 HC
    have HEQ2 : Hid (st (Mk.textIn true f) = st (Mk.textIn true f)) := rfl
    go_wp2_with fail
    refine HT1.out.mono ?_
    rintro e w3 ⟨rfl, hb3⟩
    have B3 := Lib.hid (B2.out.trans (hb3.mono B2.out.size))
    have HT2 := Lib.hid (lw_textIn (f.bulk + 1) f (Nat.lt_succ_self _) (by omega) true v K w3 (HV.out.below HK.out B3.out) (fun b q => Nat.lt_of_lt_of_le (HK.out b q) B3.out.size))
    clear hb3 HT1 HV
    go_wp2_with fail
    refine HT2.out.mono ?_
    rintro e w4 ⟨rfl, hb4⟩
    have B4 := Lib.hid (B3.out.trans (hb4.mono B3.out.size))
    have hst : ∀ l : List UInt8, (st l).toList = l := fun l => Lib.toList_data _
    clear hb4 HT2
    go_wp2_with fail
    go_ret
    exact ⟨ret_bool (by simp), B4.out⟩
  · have hv1 := HC1.out h0
    subst hv1
    have hcb : (c == 0) = false := beq_eq_false_iff_ne.2 h0
    clear hb2 HBG HC0 HC1 HC h0
    go_wp2_with fail
    go_ret
    exact ⟨rfl, B2.out⟩
end Go.Proofs.YteidgdpaolieaaaGreatDoor

/- Contract of the law's treeBegun: what must be in any case, is. -/
namespace Mk
def s1 : Bs := [60, 112, 62, 97, 60, 98, 114, 62, 60, 117, 108, 62, 60, 108, 105, 62, 98, 60, 108, 105, 62, 99, 60, 47, 120, 62]
def l1 : List Tok := [⟨2, [112], [], []⟩, ⟨1, [], [], [97]⟩, ⟨2, [98, 114], [], []⟩, ⟨2, [117, 108], [], []⟩, ⟨2, [108, 105], [], []⟩, ⟨1, [], [], [98]⟩, ⟨2, [108, 105], [], []⟩, ⟨1, [], [], [99]⟩, ⟨3, [120], [], []⟩]
set_option maxRecDepth 100000
theorem toks1 : toks s1 = l1 := by decide +kernel
theorem build1 : build l1 = page := by decide +kernel
theorem adj1 : Adj false l1 := by simp [Adj, l1]
theorem flat1 : (flat page).length = 12 := by decide +kernel
theorem ok1 : ∀ t ∈ l1, Bld.TokOk t ∧ Fo.atB t.ats ≤ 1048576 := fun t ht => ⟨by rw [← toks1] at ht; exact toks_ok s1 t ht, by revert t; decide⟩
end Mk
namespace Go.Proofs.YteidgdpaolieaaaGreatDoor
open Go.RowKit
set_option maxHeartbeats 4000000 in
set_option maxRecDepth 100000 in
theorem lw_treeBegun (w : World) (hg : Gl w) :
    Calls Tryz.prog 18 #[] w fun e w' => e = .returned (.bool true) ∧ Below w.heap.size w w' := by
  have hlt := hg.lt
  have hr := tk_Read Mk.s1 w hg (by decide)
  rw [Mk.toks1] at hr
  have HR := Lib.hid hr
  clear hr
  go_enter Tryz.func18, Tryz.ntmps18
  go_wp2_with fail
  refine HR.out.mono ?_
  rintro e w1 ⟨v1, rfl, hv1, hb1⟩
  have B1 := Lib.hid hb1
  have hbd := tr_Build Mk.l1 v1 _ w1 hv1 (fun b q => q.2) (by decide) Mk.ok1 Mk.adj1 (by decide)
  rw [Mk.build1] at hbd
  have HB := Lib.hid hbd
  obtain ⟨ao1, cap1, hv1s, _, _⟩ := hv1.at_
  subst hv1s
  clear hb1 HR hbd hv1
  go_wp2_with fail
  refine HB.out.mono ?_
  rintro e w2 ⟨v2, rfl, hv2, hb2⟩
  have B2 := Lib.hid (B1.out.trans (hb2.mono B1.out.size))
  have HV2 : Hid (FoV w2 (fun b => b < w2.heap.size) v2 Mk.page) := hv2.frame (fun b q => ⟨q.2, rfl⟩)
  obtain ⟨ao2, cap2, xs2, hv2s, _⟩ := hv2
  subst hv2s
  clear hb2 HB
  go_wp2_with fail
  refine (lw_page w2).mono ?_
  rintro e w3 ⟨v3, rfl, hv3, hb3⟩
  have B3 := Lib.hid (B2.out.trans (hb3.mono B2.out.size))
  have HV3 : Hid (FoV w3 (fun b => b < w3.heap.size) (.slice ao2 Mk.page.len cap2) Mk.page) := HV2.out.frame (fun b q => ⟨Nat.lt_of_lt_of_le q hb3.size, hb3.block b q⟩)
  have hfl := tr_Flat Mk.page v3 _ w3 (by decide) Mk.page_check hv3 (fun b q => q.2)
  rw [Mk.flat1] at hfl
  have HF := Lib.hid hfl
  clear hb3 hv3 HV2 hfl
  go_wp2_with fail
  refine HF.out.mono ?_
  rintro e w4 ⟨ao4, cap4, rfl, hb4⟩
  have B4 := Lib.hid (B3.out.trans (hb4.mono B3.out.size))
  have HV4 : Hid (FoV w4 (fun b => b < w4.heap.size) (.slice ao2 Mk.page.len cap2) Mk.page) := HV3.out.frame (fun b q => ⟨Nat.lt_of_lt_of_le q hb4.size, hb4.block b q⟩)
  clear hb4 HF HV3
  go_wp2_with fail
  refine (lw_page w4).mono ?_
  rintro e w5 ⟨v5, rfl, hv5, hb5⟩
  have B5 := Lib.hid (B4.out.trans (hb5.mono B4.out.size))
  have HV5 : Hid (FoV w5 (fun b => b < w5.heap.size) (.slice ao2 Mk.page.len cap2) Mk.page) := HV4.out.frame (fun b q => ⟨Nat.lt_of_lt_of_le q hb5.size, hb5.block b q⟩)
  have hck := tr_Check Mk.page v5 _ w5 (by decide) hv5 (fun b q => q.2)
  rw [Mk.page_check] at hck
  have HC := Lib.hid hck
  clear hb5 hv5 HV4 hck
  go_wp2_with fail
  refine HC.out.mono ?_
  rintro e w6 ⟨rfl, hb6⟩
  have B6 := Lib.hid (B5.out.trans (hb6.mono B5.out.size))
  have HV6 : Hid (FoV w6 (fun b => b < w6.heap.size) (.slice ao2 Mk.page.len cap2) Mk.page) := HV5.out.frame (fun b q => ⟨Nat.lt_of_lt_of_le q hb6.size, hb6.block b q⟩)
  clear hb6 HC HV5
  go_wp2_with fail
  refine (lw_page w6).mono ?_
  rintro e w7 ⟨v7, rfl, hv7, hb7⟩
  have B7 := Lib.hid (B6.out.trans (hb7.mono B6.out.size))
  have HV7 : FoV w7 (fun b => b < w7.heap.size) (.slice ao2 Mk.page.len cap2) Mk.page := HV6.out.frame (fun b q => ⟨Nat.lt_of_lt_of_le q hb7.size, hb7.block b q⟩)
  have HSN := Lib.hid (rf_SameNodes (Mk.page.bulk + 1) Mk.page (Nat.lt_succ_self _) (by decide) _ v7 _ _ w7 HV7 hv7 (fun b q => q) (fun b q => q.2))
  clear hb7 hv7 HV7 HV6 B1 B2 B3 B4 B5 B6
  go_wp2_with fail
  refine HSN.out.mono ?_
  rintro e w8 ⟨rfl, hb8⟩
  have B8 := Lib.hid (B7.out.trans (hb8.mono B7.out.size))
  clear hb8 HSN B7
  go_wp2_with fail
  go_ret
  exact ⟨rfl, B8.out⟩
end Go.Proofs.YteidgdpaolieaaaGreatDoor

/- Bounds: what is cleaned of a right tree is greater by at most 3000 a node. No program in sight. -/
namespace Mk
def linkOf (e : Bs) : Bs := if e = [97] then [104, 114, 101, 102] else [115, 114, 99]
theorem link_name (e n : Bs) (h1 : mayB e n = true) (h2 : linkB n = true) : n = linkOf e := by
  unfold mayB at h1
  unfold linkB at h2
  unfold linkOf
  split at h1
  · rename_i he
    rw [if_pos he]
    rcases Bool.or_eq_true_iff.1 h1 with q | q
    · exact eq_of_beq q
    · rw [eq_of_beq q] at h2; exact absurd h2 (by decide)
  · rename_i he
    rw [if_neg he]
    split at h1
    · rcases Bool.or_eq_true_iff.1 h1 with q | q
      · exact eq_of_beq q
      · rw [eq_of_beq q] at h2; exact absurd h2 (by decide)
    · cases h1
theorem cleanAts_one (base e : Bs) : ∀ (l seen : List At), checkAts isName seen l = 0 → Fo.atB (l.flatMap (cleanAt base e)) ≤ Fo.atB l + (if hasAt seen (linkOf e) = true then 0 else 3000)
  | [], _, _ => Nat.zero_le _
  | a :: r, seen, h => by
    obtain ⟨h1, h2, h3⟩ := (checkAts_cons ..).1 h
    have ih := cleanAts_one base e r (seen ++ [a]) h3
    rw [List.flatMap_cons, atB_append]
    have e1 : Fo.atB (a :: r) = 1 + a.n.length + a.v.length + Fo.atB r := by simp [Fo.atB]
    rw [e1]
    by_cases hl : mayB e a.n = true ∧ linkB a.n = true
    · have hx := link_name e a.n hl.1 hl.2
      have hs : hasAt (seen ++ [a]) (linkOf e) = true := by rw [hasAt_app, hx]; simp
      rw [if_pos hs] at ih
      rw [hx] at h2
      rw [if_neg (by rw [h2]; decide)]
      have hc : Fo.atB (cleanAt base e a) ≤ 1 + a.n.length + 3000 := by
        unfold cleanAt
        rw [if_neg (by simp [hl.1]), if_pos hl.2]
        split
        · rename_i hg
          have : (light base a.v).length ≤ 3000 := by
            unfold goodLink at hg
            rw [Bool.and_eq_true] at hg
            exact of_decide_eq_true hg.2
          show 1 + a.n.length + (light base a.v).length + 0 ≤ _
          omega
        · exact Nat.zero_le _
      omega
    · have hc : Fo.atB (cleanAt base e a) ≤ 1 + a.n.length + a.v.length := by
        unfold cleanAt
        split
        · exact Nat.zero_le _
        · rename_i hm
          have hm' : mayB e a.n = true := by simpa using hm
          rw [if_neg (fun q => hl ⟨hm', q⟩)]
          show 1 + a.n.length + a.v.length + 0 ≤ _
          omega
      have hw : (if hasAt (seen ++ [a]) (linkOf e) = true then 0 else 3000) ≤ (if hasAt seen (linkOf e) = true then 0 else 3000) := by
        by_cases q : hasAt seen (linkOf e) = true
        · rw [if_pos q, if_pos (by rw [hasAt_app, q]; rfl)]
          exact Nat.le_refl _
        · rw [if_neg q]
          split <;> omega
      omega
theorem cleanOn_bulk2 (base : Bs) : ∀ (f : Fo) (names : List Bs) (prev : Bool) (out : Fo), checkF f names prev = 0 → (cleanOn base out f).bulk ≤ out.bulk + f.bulk + 3000 * f.count := by
  intro f
  induction f with
  | nil =>
    intro _ _ out _
    show out.bulk ≤ out.bulk + 0 + 3000 * 0
    omega
  | node n a t k r ihk ihr =>
    intro names prev out h
    obtain ⟨g1, g2, g3, g4⟩ := (checkF_node ..).1 h
    have e : Fo.bulk (.node n a t k r) = 1 + n.length + t.length + Fo.atB a + Fo.bulk k + Fo.bulk r := rfl
    have e2 : Fo.count (.node n a t k r) = k.count + r.count + 1 := rfl
    rw [e, e2]
    unfold cleanOn
    by_cases hn : n = []
    · rw [if_pos hn]
      have h1 := ihr names _ (Fo.snoc n a t k out) g4
      have h2 := Fo.snoc_bulk out n a t k
      omega
    rw [if_neg hn]
    by_cases hg : goneB n = true
    · rw [if_pos hg]
      have h1 := ihr names _ out g4
      omega
    rw [if_neg hg]
    simp only
    have hk := ihk _ _ .nil g3
    have e0 : Fo.bulk .nil = 0 := rfl
    by_cases hal : allowedB n = true
    · rw [if_neg (by simp [hal])]
      by_cases hi : n = [105, 109, 103] ∧ hasAt (cleanAts base n a) [115, 114, 99] = false
      · rw [if_pos hi]
        have h1 := ihr names _ out g4
        omega
      · rw [if_neg hi]
        obtain ⟨q1, q2, q3, q4, q5⟩ := (nodeE_el _ _ hn _ _ _).1 g1
        have h1 := ihr names _ (Fo.snoc n (cleanAts base n a) [] (cleanOn base .nil k) out) g4
        have h2 := Fo.snoc_bulk out n (cleanAts base n a) [] (cleanOn base .nil k)
        have h3 := cleanAts_one base n a [] q4
        have h4 : Fo.atB (cleanAts base n a) ≤ Fo.atB a + 3000 := h3
        simp only [List.length_nil] at h2
        omega
    · rw [if_pos (by simpa using hal)]
      have h1 := ihr names _ (Fo.joins out (cleanOn base .nil k)) g4
      have h2 := Fo.joins_bulk (cleanOn base .nil k) out
      omega
theorem clean_bulk2 (base : Bs) (f : Fo) (h : checkT f = 0) : (clean base f).bulk ≤ f.bulk + 9000000 := by
  have hr := checkT_right f h
  unfold checkT at h
  by_cases q : 3000 < (sizeF 8 f).1 ∨ 8 < (sizeF 8 f).2
  · rw [if_pos q] at h; cases h
  · rw [if_neg q] at h
    have q1 : (sizeF 8 f).1 ≤ 3000 := Nat.not_lt.1 fun e => q (.inl e)
    have q2 : (sizeF 8 f).2 ≤ 8 := Nat.not_lt.1 fun e => q (.inr e)
    have d := size_from f 8 hr q2
    rw [size_to f 8 hr d] at q1
    simp only at q1
    have := cleanOn_bulk2 base f [] false .nil h
    have e0 : Fo.bulk .nil = 0 := rfl
    unfold clean
    omega
end Mk
