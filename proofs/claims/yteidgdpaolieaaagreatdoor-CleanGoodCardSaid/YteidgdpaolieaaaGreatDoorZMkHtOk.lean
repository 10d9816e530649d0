/- Contracts of the program's Html at any texts: what is clean, or that they are too long. -/
import Derived.Test.YteidgdpaolieaaaGreatDoorZRfJ
import Derived.Test.YteidgdpaolieaaaGreatDoorZMkRep6
import Derived.Test.YteidgdpaolieaaaGreatDoorZMkHtml
import Derived.Test.YteidgdpaolieaaaGreatDoorZMkSame
import Derived.Test.YteidgdpaolieaaaGreatDoorZMkFlat1
import Derived.Test.YteidgdpaolieaaaGreatDoorZRfH
namespace Go.Proofs.YteidgdpaolieaaaGreatDoor
open Go.RowKit
theorem tells_html (base s : List UInt8) (hs : s.length ≤ 3000) : ∀ t ∈ Mk.flat (Mk.clean base (Mk.build (Mk.toks s))), TokTells t := by
  intro t ht
  have h1 := Mk.toks_bulk s
  have h2 := Mk.build_bulk (Mk.toks s)
  have h3 := Mk.clean_bulk base (Mk.build (Mk.toks s))
  obtain ⟨h4, h5⟩ := Mk.flat_mem _ t ht
  exact ⟨fun _ => tells_any _ (by omega), fun a ha => tells_any _ (by have := h5 a ha; omega)⟩
theorem cl_Html_ok (base s : List UInt8) (w : World) (hg : Gl w) (hb : base.length ≤ 3000) (hs : s.length ≤ 3000) :
    Calls Tryz.prog 9 #[.string (st base), .string (st s)] w fun e w' => e = .returned (.tuple #[.string (st (Mk.html base s)), .int .i64 0]) ∧ Below w.heap.size w w' :=
  cl_Html base s w hg hb (Mk.fits base s hs) (tells_html base s hs)
set_option maxHeartbeats 4000000 in
set_option maxRecDepth 100000 in
theorem cl_Html_long (base s : List UInt8) (w : World) (h : 3000 < base.length ∨ 3000 < s.length) :
    Calls Tryz.prog 9 #[.string (st base), .string (st s)] w fun e w' => e = .returned (.tuple #[.string (st []), .int .i64 2]) ∧ w' = w := by
  by_cases h1 : 3000 < base.length
  · have h2 : 3000 < (st base).size := by rw [st_size]; omega
    clear h h1
    go_enter Tryz.func9, Tryz.ntmps9
    go_wp2_with fail
    go_ret2
    exact ⟨rfl, rfl⟩
  · have h2 : ¬ 3000 < (st base).size := by rw [st_size]; omega
    have h3 : 3000 < (st s).size := by rw [st_size]; omega
    clear h h1
    go_enter Tryz.func9, Tryz.ntmps9
    go_wp2_with fail
    go_ret2
    exact ⟨rfl, rfl⟩
end Go.Proofs.YteidgdpaolieaaaGreatDoor

/- Contracts of the program's token.Check and Build at tokens that are right, Read and Flat. -/
namespace Mk
theorem adj_at : ∀ (l : List Tok) (p : Bool) (j : Nat) (t u : Tok), Adj p l → l[j]? = some t → l[j + 1]? = some u → u.kind = 1 → t.kind ≠ 1
  | [], _, _, _, _, _, h, _, _ => by simp at h
  | a :: r, p, 0, t, u, ha, h1, h2, hk => by
    have e : a = t := by simpa using h1
    subst e
    cases r with
    | nil => simp at h2
    | cons b r =>
      have e : b = u := by simpa using h2
      subst e
      have := ha.2.1 hk
      simpa using this
  | a :: r, p, j + 1, t, u, ha, h1, h2, hk => adj_at r _ j t u ha.2 (by simpa using h1) (by simpa using h2) hk
theorem name_len {n : Bs} (h : isName n = true) : n.length ≤ 20 := by
  unfold isName at h
  rw [Bool.and_eq_true, Bool.and_eq_true] at h
  exact of_decide_eq_true h.1.2
end Mk
namespace Go.Proofs.YteidgdpaolieaaaGreatDoor
open Go.RowKit
set_option maxHeartbeats 4000000 in
set_option maxRecDepth 100000 in
theorem tk_one (t : Mk.Tok) (ht : Mk.Bld.TokOk t) (va : Value) (K : Nat → Prop) (w : World) (hva : AtsV w K va t.ats) (hK : ∀ b, K b → b < w.heap.size) (hb : Mk.Fo.atB t.ats ≤ 1048576) :
    Calls Tryz.prog 87 #[tokV t va] w fun e w' => e = .returned (.int .i64 0) ∧ Below w.heap.size w w' := by
  have hst : ∀ l : List UInt8, (st l).toList = l := fun l => Lib.toList_data _
  have hll := Mk.atB_len t.ats
  obtain ⟨kd, nm, ats, tx⟩ := t
  obtain ⟨aot, capt, hva1, hva2⟩ := id hva
  subst hva1
  unfold tokV
  simp only at *
  have hal := (Below.refl w.heap.size w).alloc (Nat.le_refl _) (.cells #[.int .i64 kd, .string (st nm), .slice aot ats.length capt, .string (st tx)] 94)
  have AL := Lib.hid hal
  rcases ht with ⟨k, h1, h2, h3⟩ | ⟨k, h1, h2, h3⟩ | ⟨k, h1, h2, h3⟩
  · simp only at k h1 h2 h3
    subst k
    subst h1
    subst h2
    have ht2 : tx.isEmpty = false := by cases tx with | nil => exact absurd rfl h3 | cons _ _ => rfl
    clear hva hva2 hal h3
    go_enter Tryz.func87, Tryz.ntmps87
    go_wp2_with fail
    go_ret
    exact ⟨rfl, AL.out⟩
  · simp only at k h1 h2 h3
    subst k
    subst h3
    have hn := Mk.name_len h1
    have hnm := fun W => mk_Name (st nm) W (by rw [st_size]; omega)
    rw [bs_st, h1] at hnm
    have HN := Lib.hid hnm
    have HA := Lib.hid (mk_Attrs ats _ K _ (hva.below hK hal) (fun b q => Nat.lt_of_lt_of_le (hK b q) hal.size) (Nat.le_trans hb (by decide)))
    rw [h2] at HA
    clear hva hva2 hal h1 h2 hnm
    go_enter Tryz.func87, Tryz.ntmps87
    go_wp2_with fail
    refine (HN.out _).mono ?_
    rintro e w2 ⟨rfl, rfl⟩
    go_wp2_with fail
    refine HA.out.mono ?_
    rintro e w3 ⟨rfl, hb3⟩
    have B3 := Lib.hid (AL.out.trans (hb3.mono AL.out.size))
    clear hb3 HA
    go_wp2_with fail
    go_ret
    exact ⟨rfl, B3.out⟩
  · simp only at k h1 h2 h3
    subst k
    subst h3
    subst h2
    have hn := Mk.name_len h1
    have hnm := fun W => mk_Name (st nm) W (by rw [st_size]; omega)
    rw [bs_st, h1] at hnm
    have HN := Lib.hid hnm
    have HA := Lib.hid (mk_Attrs [] _ K _ (hva.below hK hal) (fun b q => Nat.lt_of_lt_of_le (hK b q) hal.size) (Nat.le_trans hb (by decide)))
    rw [show Mk.checkAts Mk.isName [] [] = 0 from rfl] at HA
    clear hva hva2 hal h1 hnm
    go_enter Tryz.func87, Tryz.ntmps87
    go_wp2_with fail
    refine (HN.out _).mono ?_
    rintro e w2 ⟨rfl, rfl⟩
    go_wp2_with fail
    refine HA.out.mono ?_
    rintro e w3 ⟨rfl, hb3⟩
    have B3 := Lib.hid (AL.out.trans (hb3.mono AL.out.size))
    clear hb3 HA
    go_wp2_with fail
    go_ret
    exact ⟨rfl, B3.out⟩
set_option maxHeartbeats 4000000 in
set_option maxRecDepth 100000 in
theorem tk_Check (l : List Mk.Tok) (v : Value) (K : Nat → Prop) (w : World) (hv : ToksV w K v l) (hK : ∀ b, K b → b < w.heap.size) (hl : l.length ≤ 3000) (hok : ∀ t ∈ l, Mk.Bld.TokOk t ∧ Mk.Fo.atB t.ats ≤ 1048576) (ha : Mk.Adj false l) :
    Calls Tryz.prog 52 #[v] w fun e w' => e = .returned (.int .i64 0) ∧ Below w.heap.size w w' := by
  obtain ⟨ao, cap, hv1, hlm, hat⟩ := hv.at_
  subst hv1
  have HAT := Lib.hid hat
  have HK := Lib.hid hK
  have HOK := Lib.hid hok
  have HAD := Lib.hid ha
  have h30 : ¬ 3000 < (l.length : Int) := by omega
  clear hv hat hK hok ha
  go_enter Tryz.func52, Tryz.ntmps52
  go_wp2_with fail
  go_loopw [11] (fun i wr => ∃ k : Nat, k ≤ l.length ∧ i = .int .i64 k ∧ Hid (Below w.heap.size w wr)) (fun i _ => l.length - (intOf i).toNat)
  case atStart => exact ⟨0, Nat.zero_le _, rfl, Below.refl _ _⟩
  case round =>
    obtain ⟨k, hk, rfl, HBL⟩ := hrel
    by_cases hlt : k < l.length
    · obtain ⟨t, hkt⟩ : ∃ t, l[k]? = some t := ⟨_, List.getElem?_eq_getElem hlt⟩
      obtain ⟨g, o, aot, capt, hao, hKg, hva, y0, y1, y2, y3⟩ := HAT.out k t hkt
      subst hao
      have hgl := HK.out g hKg
      rw [← HBL.out.cell (p := ⟨g, _, none⟩) hgl] at y0 y1 y2 y3
      obtain ⟨ok1, ok2⟩ := HOK.out t (List.mem_of_getElem? hkt)
      have hal := (Below.refl wr.heap.size wr).alloc (Nat.le_refl _) (.cells #[.int .i64 t.kind, .string (st t.name), .slice aot t.ats.length capt, .string (st t.text)] 94)
      have hBL1 := HBL.out.trans (hal.mono HBL.out.size)
      have HONE := Lib.hid (tk_one t ok1 (.slice aot t.ats.length capt) K _ (hva.frame (fun b q => ⟨q, hBL1.block b (HK.out b q)⟩)) (fun b q => Nat.lt_of_lt_of_le (HK.out b q) hBL1.size) ok2)
      have HBL1 := Lib.hid hBL1
      have PB := Lib.hid (Blk.new wr 94 #[.int .i64 t.kind, .string (st t.name), .slice aot t.ats.length capt, .string (st t.text)])
      have HPREV : Hid (k = 0 ∨ t.kind ≠ 1 ∨ ∃ kj, (kj == 1) = false ∧ 0 < k ∧ w.cell? ⟨g, o + (k - 1) * 4, none⟩ = some (.int .i64 kj)) := by
        cases k with
        | zero => exact .inl rfl
        | succ j =>
          by_cases hk1 : t.kind = 1
          · obtain ⟨u, hju⟩ : ∃ u, l[j]? = some u := ⟨_, List.getElem?_eq_getElem (by omega)⟩
            have hne := Mk.adj_at l false j u t HAD.out hju hkt hk1
            obtain ⟨g', o', aou, capu, hao', _, _, x0, _, _, _⟩ := HAT.out j u hju
            injection hao' with hao'
            injection hao' with e1 e2
            subst e1
            subst e2
            refine .inr (.inr ⟨u.kind, beq_eq_false_iff_ne.2 hne, Nat.succ_pos _, ?_⟩)
            rw [Nat.add_sub_cancel]
            exact x0
          · exact .inr (.inl hk1)
      clear hBL1 hal hva HBL ok1 ok2 hkt
      unfold tokV at HONE
      go_upto_region 6 with fail
      generalize (wr.alloc (.cells #[.int .i64 t.kind, .string (st t.name), .slice aot t.ats.length capt, .string (st t.text)] 94)) = w1 at HONE HBL1 PB ⊢
      have z0 : w1.cell? ⟨wr.heap.size, 0, none⟩ = some (.int .i64 t.kind) := Blk.cell PB.out 0
      have z1 : w1.cell? ⟨wr.heap.size, 1, none⟩ = some (.string (st t.name)) := Blk.cell PB.out 1
      have z2 : w1.cell? ⟨wr.heap.size, 2, none⟩ = some (.slice aot t.ats.length capt) := Blk.cell PB.out 2
      have z3 : w1.cell? ⟨wr.heap.size, 3, none⟩ = some (.string (st t.text)) := Blk.cell PB.out 3
      clear y0 y1 y2 y3
      go_wp2_with fail
      refine HONE.out.mono ?_
      rintro e w2 ⟨rfl, hb2⟩
      have B2 := Lib.hid (HBL1.out.trans (hb2.mono HBL1.out.size))
      rw [← hb2.cell (p := ⟨wr.heap.size, _, none⟩) (Blk.lt PB.out)] at z0
      clear z1 z2 z3 hb2 HONE HBL1 PB
      generalize t.kind = kd at z0 HPREV
      rcases HPREV.out with h0 | h1 | ⟨kj, h1, h2, h3⟩
      · subst h0
        clear HPREV
        go_wp2_with fail
        go_roundw
        case rel => exact ⟨1, by omega, by go_num, B2.out⟩
        case measure => simp [intOf]; omega
      · have hkb : (kd == 1) = false := beq_eq_false_iff_ne.2 h1
        by_cases h0 : 0 < k
        · have h0i : (0 : Int) < k := by omega
          clear HPREV h1
          go_wp2_with fail
          go_roundw
          case rel => exact ⟨k + 1, by omega, by go_num, B2.out⟩
          case measure => simp [intOf]; omega
        · have h0i : ¬ (0 : Int) < k := by omega
          clear HPREV h1
          go_wp2_with fail
          go_roundw
          case rel => exact ⟨k + 1, by omega, by go_num, B2.out⟩
          case measure => simp [intOf]; omega
      · rw [← B2.out.cell (p := ⟨g, _, none⟩) hgl] at h3
        obtain ⟨j, rfl⟩ : ∃ j, k = j + 1 := ⟨k - 1, by omega⟩
        rw [Nat.add_sub_cancel] at h3
        have h0i : (0 : Int) < ((j + 1 : Nat) : Int) := by omega
        have hj1 : (((j + 1 : Nat) : Int) - 1) = (j : Int) := by omega
        have hj2 : (j : Int) < l.length := by omega
        clear HPREV
        go_wp2_with fail
        all_goals
          go_roundw
          case rel => exact ⟨j + 1 + 1, by omega, by go_num, B2.out⟩
          case measure => simp [intOf]; omega
    · have : k = l.length := by omega
      subst this
      go_wp2_with fail
      go_ret
      exact ⟨rfl, HBL.out⟩
set_option maxHeartbeats 4000000 in
set_option maxRecDepth 100000 in
theorem tr_Build (l : List Mk.Tok) (v : Value) (K : Nat → Prop) (w : World) (hv : ToksV w K v l) (hK : ∀ b, K b → b < w.heap.size) (hl : l.length ≤ 3000) (hok : ∀ t ∈ l, Mk.Bld.TokOk t ∧ Mk.Fo.atB t.ats ≤ 1048576) (ha : Mk.Adj false l) (hb : Mk.Bld.tokB l ≤ 549755813000) :
    Calls Tryz.prog 23 #[v] w fun e w' => ∃ v', e = .returned (.tuple #[v', .int .i64 0]) ∧ FoV w' (fun g => w.heap.size ≤ g ∧ g < w'.heap.size) v' (Mk.build l) ∧ Below w.heap.size w w' := by
  have HC := Lib.hid (tk_Check l v K w hv hK hl hok ha)
  have HV := Lib.hid hv
  have HK := Lib.hid hK
  obtain ⟨ao, cap, hv1, hlm, hat⟩ := hv.at_
  subst hv1
  clear hv hK hat hok ha
  go_enter Tryz.func23, Tryz.ntmps23
  go_wp2_with fail
  refine HC.out.mono ?_
  rintro e w1 ⟨rfl, hb1⟩
  have B1 := Lib.hid hb1
  have HO := Lib.hid (tr_Of l _ K w1 (HV.out.frame (fun b q => ⟨q, hb1.block b (HK.out b q)⟩)) (fun b q => Nat.lt_of_lt_of_le (HK.out b q) hb1.size) hb)
  clear hb1 HC
  go_wp2_with fail
  refine HO.out.mono ?_
  rintro e w2 ⟨v2, rfl, hv2, hb2⟩
  have HV2 : Hid (FoV w2 (fun g => w.heap.size ≤ g ∧ g < w2.heap.size) v2 (Mk.build l)) := hv2.frame (fun b q => ⟨⟨Nat.le_trans B1.out.size q.1, q.2⟩, rfl⟩)
  have B2 := Lib.hid (B1.out.trans (hb2.mono B1.out.size))
  clear hv2 hb2 HO
  go_wp2_with fail
  go_ret2
  exact ⟨v2, rfl, HV2.out, B2.out⟩
set_option maxHeartbeats 4000000 in
set_option maxRecDepth 100000 in
theorem tk_Read (s : List UInt8) (w : World) (hg : Gl w) (hs : s.length ≤ 3000) :
    Calls Tryz.prog 22 #[.string (st s)] w fun e w' => ∃ v, e = .returned (.tuple #[v, .int .i64 0]) ∧ ToksV w' (fun b => w.heap.size ≤ b ∧ b < w'.heap.size) v (Mk.toks s) ∧ Below w.heap.size w w' := by
  have HA := Lib.hid (mk_All (st s) w hg (by rw [st_size]; omega))
  have h2 : ¬ 3000 < (st s).size := by rw [st_size]; omega
  go_enter Tryz.func22, Tryz.ntmps22
  go_wp2_with fail
  refine HA.out.mono ?_
  rintro e w1 ⟨v1, rfl, hv1, hb1⟩
  have HV1 := Lib.hid hv1
  have B1 := Lib.hid hb1
  clear hv1 hb1 HA
  go_wp2_with fail
  go_ret2
  exact ⟨v1, rfl, HV1.out, B1.out⟩
end Go.Proofs.YteidgdpaolieaaaGreatDoor

/- The laws' small functions over links: tooLong; what must be in any case (urlBegun). -/
namespace Go.Proofs.YteidgdpaolieaaaGreatDoor
open Go.RowKit

def u0 : Mg.U := ⟨[104, 116, 116, 112], [97], [47, 98, 47, 99, 47, 100, 59, 112], [113], [102], true, true, true, true⟩
abbrev t0 : List UInt8 := [104, 116, 116, 112, 58, 47, 47, 97, 47, 98, 47, 99, 47, 100, 59, 112, 63, 113, 35, 102]
theorem begun_split (w : World) : Calls Tryz.prog 46 #[.string (st t0)] w fun e w' => e = .returned (.tuple #[uVal u0, .int .i64 0]) ∧ Below w.heap.size w w' := by
  have h := url_Split_ok (st t0) w (by decide)
  have e : Mg.split (st t0).data.toList = u0 := by decide +kernel
  rwa [e] at h
theorem begun_join (w : World) : Calls Tryz.prog 47 #[uVal u0] w fun e w' => e = .returned (.tuple #[.string (st t0), .int .i64 0]) ∧ Below w.heap.size w w' := by
  have h := url_Join_yes u0 w (by decide) (by decide +kernel)
  have e : Mg.join u0 = t0 := by decide +kernel
  rwa [e] at h
theorem begun_dots (w : World) : Calls Tryz.prog 48 #[.string (st [47, 97, 47, 98, 47, 99, 47, 46, 47, 46, 46, 47, 46, 46, 47, 103])] w fun e w' => e = .returned (.tuple #[.string (st [47, 97, 47, 103]), .int .i64 0]) ∧ Below w.heap.size w w' := by
  have h := url_Dots_ok (st [47, 97, 47, 98, 47, 99, 47, 46, 47, 46, 46, 47, 46, 46, 47, 103]) w (by decide)
  have e : Mg.dots (st [47, 97, 47, 98, 47, 99, 47, 46, 47, 46, 46, 47, 46, 46, 47, 103]).data.toList = [47, 97, 47, 103] := by decide +kernel
  rwa [e] at h
theorem begun_resolve (w : World) : Calls Tryz.prog 49 #[.string (st [104, 116, 116, 112, 58, 47, 47, 97, 47, 98, 47, 99, 47, 100, 59, 112, 63, 113]), .string (st [46, 46, 47, 103, 63, 121, 35, 115])] w fun e w' => e = .returned (.tuple #[.string (st [104, 116, 116, 112, 58, 47, 47, 97, 47, 98, 47, 103, 63, 121, 35, 115]), .int .i64 0]) ∧ Below w.heap.size w w' := by
  have h := url_Resolve_ok (st [104, 116, 116, 112, 58, 47, 47, 97, 47, 98, 47, 99, 47, 100, 59, 112, 63, 113]) (st [46, 46, 47, 103, 63, 121, 35, 115]) w (by decide) (by decide) (by decide +kernel) (by decide +kernel)
  have e : Mg.join (Mg.resU (Mg.split (st [104, 116, 116, 112, 58, 47, 47, 97, 47, 98, 47, 99, 47, 100, 59, 112, 63, 113]).data.toList) (Mg.split (st [46, 46, 47, 103, 63, 121, 35, 115]).data.toList)) = [104, 116, 116, 112, 58, 47, 47, 97, 47, 98, 47, 103, 63, 121, 35, 115] := by decide +kernel
  rwa [e] at h
theorem begun_safe1 (w : World) : Calls Tryz.prog 50 #[.string (st [74, 97, 118, 97, 83, 99, 114, 105, 112, 116, 58, 120])] w fun e w' => e = .returned (.tuple #[.bool false, .int .i64 0]) ∧ Below w.heap.size w w' := by
  have h := url_Safe_ok (st [74, 97, 118, 97, 83, 99, 114, 105, 112, 116, 58, 120]) w (by decide)
  have e : Mg.isSafe (st [74, 97, 118, 97, 83, 99, 114, 105, 112, 116, 58, 120]).data.toList = false := by decide +kernel
  rwa [e] at h
theorem begun_safe2 (w : World) : Calls Tryz.prog 50 #[.string (st [32, 104, 116, 10, 116, 112, 115, 58, 47, 47, 120])] w fun e w' => e = .returned (.tuple #[.bool true, .int .i64 0]) ∧ Below w.heap.size w w' := by
  have h := url_Safe_ok (st [32, 104, 116, 10, 116, 112, 115, 58, 47, 47, 120]) w (by decide)
  have e : Mg.isSafe (st [32, 104, 116, 10, 116, 112, 115, 58, 47, 47, 120]).data.toList = true := by decide +kernel
  rwa [e] at h

set_option maxHeartbeats 1000000 in
set_option maxRecDepth 100000 in
theorem law_urlBegun (w : World) :
    Calls Tryz.prog 21 #[] w fun e w' => e = .returned (.bool true) ∧ Below w.heap.size w w' := by
  go_enter Tryz.func21, Tryz.ntmps21
  go_wp2_with fail
  refine (begun_split _).mono ?_
  rintro e w1 ⟨rfl, hb1⟩
  unfold uVal u0
  go_wp2_with fail
  change Calls _ _ #[uVal u0] (w1.alloc (.cells (uCells u0) 66)) _
  have hbk := Blk.new w1 66 (uCells u0)
  have hbl := hb1.alloc hb1.size (.cells (uCells u0) 66)
  generalize w1.alloc (.cells (uCells u0) 66) = w2 at hbk hbl ⊢
  generalize w1.heap.size = B at hbk ⊢
  refine (begun_join _).mono ?_
  rintro e w3 ⟨rfl, hb3⟩
  have k3 := hbk.below hb3 hbk.lt
  have l3 := hbl.trans (hb3.mono hbl.size)
  clear hb1 hbk hbl hb3
  go_wp2_with fail
  refine (begun_dots _).mono ?_
  rintro e w4 ⟨rfl, hb4⟩
  have k4 := k3.below hb4 k3.lt
  have l4 := l3.trans (hb4.mono l3.size)
  clear k3 l3 hb4
  go_wp2_with fail
  refine (begun_resolve _).mono ?_
  rintro e w5 ⟨rfl, hb5⟩
  have k5 := k4.below hb5 k4.lt
  have l5 := l4.trans (hb5.mono l4.size)
  clear k4 l4 hb5
  go_wp2_with fail
  refine (begun_safe1 _).mono ?_
  rintro e w6 ⟨rfl, hb6⟩
  have k6 := k5.below hb6 k5.lt
  have l6 := l5.trans (hb6.mono l5.size)
  clear k5 l5 hb6
  go_wp2_with fail
  refine (begun_safe2 _).mono ?_
  rintro e w7 ⟨rfl, hb7⟩
  have k7 := k6.below hb7 k6.lt
  have l7 := l6.trans (hb7.mono l6.size)
  clear k6 l6 hb7
  have c1 : w7.cell? ⟨B, 1, none⟩ = some (.string (st [97])) := k7.cell 1
  have c2 : w7.cell? ⟨B, 2, none⟩ = some (.string (st [47, 98, 47, 99, 47, 100, 59, 112])) := k7.cell 2
  have c4 : w7.cell? ⟨B, 4, none⟩ = some (.string (st [102])) := k7.cell 4
  have hst : ∀ l, (st l).toList = l := fun l => Lib.toList_data _
  go_wp2_with fail
  go_ret
  exact ⟨rfl, l7⟩
end Go.Proofs.YteidgdpaolieaaaGreatDoor

/- The law CleanGood over the walk, where the reference's reader of a text is what the program's is. -/
namespace Mk
theorem flush_len2 (text : Bs) (out : List Tok) : (flush text out).length ≤ out.length + (if text = [] then 0 else 1) := by
  unfold flush
  simp only
  split
  · omega
  · rename_i h
    have : text ≠ [] := by rintro rfl; exact h rfl
    rw [if_neg this, List.length_append, List.length_singleton]
    exact Nat.le_refl _
theorem toksN_count : ∀ (n : Nat) (r text : Bs) (out : List Tok), r.length ≤ n → (toksN n r text out).length ≤ out.length + (if text = [] then 0 else 1) + r.length
  | 0, r, text, out, _ => by
    have e : toksN 0 r text out = flush text out := by unfold toksN; rfl
    have := flush_len2 text out
    rw [e]; omega
  | n + 1, [], text, out, _ => by
    have e : toksN (n + 1) [] text out = flush text out := by unfold toksN; rfl
    have := flush_len2 text out
    rw [e]; omega
  | n + 1, c :: t, text, out, h => by
    have h : t.length ≤ n := by simpa using h
    unfold toksN
    rw [List.length_cons]
    split
    · cases hh : hereAt (c :: t) with
      | text =>
        have := toksN_count n t (text ++ [60]) out h
        rw [if_neg (by simp)] at this
        simp only; omega
      | stop =>
        have := flush_len2 (text ++ c :: t) out
        rw [if_neg (by simp)] at this
        simp only; omega
      | gone u =>
        have h1 := here_gone hh
        have := toksN_count n u text out (by omega)
        simp only; omega
      | tag k u =>
        have h1 := here_tag hh
        have h2 := toksN_count n u [] (flush text out ++ [k]) (by omega)
        have h3 := flush_len2 text out
        rw [if_pos rfl, List.length_append, List.length_singleton] at h2
        simp only; omega
    · have := toksN_count n t (text ++ [c]) out h
      rw [if_neg (by simp)] at this
      omega
theorem toks_count (s : Bs) : (toks s).length ≤ s.length := by
  have := toksN_count s.length s [] [] (Nat.le_refl _)
  rw [if_pos rfl] at this
  have e : toks s = toksN s.length s [] [] := rfl
  rw [e]
  simpa using this
theorem atB_tokB {l : List Tok} {t : Tok} (h : t ∈ l) : Fo.atB t.ats ≤ Bld.tokB l := by
  induction l with
  | nil => cases h
  | cons x r ih =>
    rw [Bld.tokB_cons]
    rcases List.mem_cons.1 h with e | e
    · rw [e]; omega
    · have := ih e; omega
end Mk
namespace Go.Proofs.YteidgdpaolieaaaGreatDoor
open Go.RowKit
/-- the reference's reader of a text, as the law wants it. -/
def TreeOfC : Prop := ∀ (s : List UInt8) (w : World), s.length ≤ 3000 → Calls Tryz.prog 25 #[.string (st s)] w fun e w' => ∃ v, e = .returned v ∧ FoV w' (fun b => w.heap.size ≤ b ∧ b < w'.heap.size) v (Mk.build (Mk.toks s)) ∧ Below w.heap.size w w'
set_option maxHeartbeats 8000000 in
set_option maxRecDepth 100000 in
theorem lw_CleanGood (htree : TreeOfC) (base s : List UInt8) (w : World) (hg : Gl w) :
    Calls Tryz.prog 6 #[.string (st base), .string (st s)] w fun e w' => e = .returned (.bool true) ∧ Below w.heap.size w w' := by
  have hlt := hg.lt
  have hst : ∀ l : List UInt8, (st l).toList = l := fun l => Lib.toList_data _
  have HG := Lib.hid hg
  have HTR := Lib.hid htree
  clear htree
  have hhh : ∃ (T : List UInt8) (C : Int), Hid ((C = 2 ∧ T = []) ∨ (C = 0 ∧ base.length ≤ 3000 ∧ s.length ≤ 3000 ∧ T = Mk.html base s)) ∧ Calls Tryz.prog 9 #[.string (st base), .string (st s)] w fun e w' => e = .returned (.tuple #[.string (st T), .int .i64 C]) ∧ Below w.heap.size w w' := by
    by_cases hlong : 3000 < base.length ∨ 3000 < s.length
    · exact ⟨[], 2, .inl ⟨rfl, rfl⟩, (cl_Html_long base s w hlong).mono (by rintro e w3 ⟨rfl, rfl⟩; exact ⟨rfl, Below.refl _ _⟩)⟩
    · exact ⟨Mk.html base s, 0, .inr ⟨rfl, by omega, by omega, rfl⟩, cl_Html_ok base s w hg (by omega) (by omega)⟩
  obtain ⟨t, C, HTC, hh⟩ := hhh
  have HH := Lib.hid hh
  have e2 : (st t).size = t.length := st_size t
  clear hh hg
  go_enter Tryz.func6, Tryz.ntmps6
  go_wp2_with fail
  refine HH.out.mono ?_
  rintro e w1 ⟨rfl, hb1⟩
  have B1 := Lib.hid hb1
  have HBG := Lib.hid (lw_cleanBegun w1 (HG.out.below hb1 hlt))
  clear hb1 HH
  go_wp2_with fail
  refine HBG.out.mono ?_
  rintro e w2 ⟨rfl, hb2⟩
  have B2 := Lib.hid (B1.out.trans (hb2.mono B1.out.size))
  have HUB := Lib.hid (law_urlBegun w2)
  clear hb2 HBG B1
  go_wp2_with fail
  refine HUB.out.mono ?_
  rintro e w3 ⟨rfl, hb3⟩
  have B3 := Lib.hid (B2.out.trans (hb3.mono B2.out.size))
  clear hb3 HUB B2
  rcases HTC.out with ⟨hc, ht⟩ | ⟨hc, hbl, hsl, ht⟩
  · as_aux_lemma =>
    subst hc
    subst ht
    have hst0 : (st ([] : List UInt8)).toList = [] := Lib.toList_data _
    clear HTC
    go_wp2_with fail
    go_ret
    exact ⟨rfl, B3.out⟩
  subst hc
  by_cases htl : 3000 < t.length
  · have hti : (3000 : Int) < t.length := by omega
    clear HTC ht
    as_aux_lemma =>
    go_wp2_with fail
    go_ret
    exact ⟨rfl, B3.out⟩
  have hti : ¬ (3000 : Int) < t.length := by omega
  have htl3 : t.length ≤ 3000 := by omega
  obtain ⟨h1, h2⟩ := Mk.html_read base s
  rw [← ht] at h1 h2
  have hok := Mk.toks_ok t
  have hcnt := Mk.toks_count t
  have htb := Mk.toks_bulk t
  have hbb := Mk.build_bulk (Mk.toks t)
  have hck0 := (Mk.Bld.build_ok (Mk.toks s) (Mk.toks_ok s)).1
  have hcc := Mk.clean_check base _ hck0
  have hal := Mk.clean_allow base (Mk.build (Mk.toks s)) hck0
  have hsf := Mk.clean_safe base _ (Mk.check_right _ [] false hck0)
  rw [← h2] at hal hsf
  have hct := Mk.build_checkT (Mk.toks t) hok (by omega)
  have hadj : Mk.Adj false (Mk.toks t) := by
    rw [h1]
    have := (Mk.flat_ok _ [] false hcc).2 [] trivial
    rwa [List.append_nil] at this
  have HRD := Lib.hid (tk_Read t w3 (HG.out.below B3.out hlt) htl3)
  have HOK : Hid (∀ x ∈ Mk.toks t, Mk.Bld.TokOk x ∧ Mk.Fo.atB x.ats ≤ 1048576) := fun x hx => ⟨hok x hx, by have := Mk.atB_tokB hx; omega⟩
  have HADJ := Lib.hid hadj
  have HTL := Lib.hid (HTR.out t)
  obtain ⟨l, hl⟩ : ∃ l, Mk.toks t = l := ⟨_, rfl⟩
  rw [hl] at HRD HOK HADJ HTL hcnt htb hbb hal hsf hct
  obtain ⟨f, hf⟩ : ∃ f, Mk.build l = f := ⟨_, rfl⟩
  rw [hf] at HTL hbb hal hsf hct
  have HF := Lib.hid hf
  have HAL := Lib.hid (fun v K W hv hK => lw_allowed (f.bulk + 1) f (Nat.lt_succ_self _) (by omega) hal v K W hv hK)
  have HIS : Hid (∀ v K W, FoV W K v f → (∀ b, K b → b < W.heap.size) → Calls Tryz.prog 8 #[v] W fun e w' => e = .returned (.tuple #[.bool true, .int .i64 0]) ∧ Below W.heap.size W w') := fun v K W hv hK => by
    have := cl_Is f v K W (by omega) hv hK
    rw [hct, hsf] at this
    exact this
  clear h1 h2 hok hcc hck0 hal hsf hct hadj hl hf HTC HTR ht
  as_aux_lemma =>
  go_wp2_with fail
  refine HRD.out.mono ?_
  rintro e w4 ⟨v4, rfl, hv4, hb4⟩
  have B4 := Lib.hid (B3.out.trans (hb4.mono B3.out.size))
  have HBD := Lib.hid (tr_Build l v4 _ w4 hv4 (fun b q => q.2) (by omega) HOK.out HADJ.out (by omega))
  rw [HF.out] at HBD
  obtain ⟨ao4, cap4, hv4s, _, _⟩ := hv4.at_
  subst hv4s
  clear hb4 HRD hv4 B3
  go_wp2_with fail
  refine HBD.out.mono ?_
  rintro e w5 ⟨v5, rfl, hv5, hb5⟩
  have B5 := Lib.hid (B4.out.trans (hb5.mono B4.out.size))
  have HV5 : Hid (FoV w5 (fun b => b < w5.heap.size) v5 f) := hv5.frame (fun b q => ⟨q.2, rfl⟩)
  have HI := Lib.hid (HIS.out v5 _ w5 HV5.out (fun b q => q))
  obtain ⟨ao5, cap5, xs5, hv5s, _⟩ := hv5
  subst hv5s
  clear hb5 HBD B4
  go_wp2_with fail
  refine HI.out.mono ?_
  rintro e w6 ⟨rfl, hb6⟩
  have B6 := Lib.hid (B5.out.trans (hb6.mono B5.out.size))
  have HV6 : Hid (FoV w6 (fun b => b < w6.heap.size) (.slice ao5 f.len cap5) f) := HV5.out.frame (fun b q => ⟨Nat.lt_of_lt_of_le q hb6.size, hb6.block b q⟩)
  have HA1 := Lib.hid (HAL.out _ _ w6 HV6.out (fun b q => q))
  clear hb6 HI HV5 B5
  go_wp2_with fail
  refine HA1.out.mono ?_
  rintro e w7 ⟨rfl, hb7⟩
  have B7 := Lib.hid (B6.out.trans (hb7.mono B6.out.size))
  have HT := Lib.hid (HTL.out w7 htl3)
  clear hb7 HA1 HV6 B6
  go_wp2_with fail
  refine HT.out.mono ?_
  rintro e w8 ⟨v8, rfl, hv8, hb8⟩
  have B8 := Lib.hid (B7.out.trans (hb8.mono B7.out.size))
  have HA2 := Lib.hid (HAL.out v8 _ w8 hv8 (fun b q => q.2))
  obtain ⟨ao8, cap8, xs8, hv8s, _⟩ := hv8
  subst hv8s
  clear hb8 HT B7
  go_wp2_with fail
  refine HA2.out.mono ?_
  rintro e w9 ⟨rfl, hb9⟩
  have B9 := Lib.hid (B8.out.trans (hb9.mono B8.out.size))
  clear hb9 HA2 B8
  go_wp2_with fail
  go_ret
  exact ⟨rfl, B9.out⟩
end Go.Proofs.YteidgdpaolieaaaGreatDoor

/- Contract of the reference's TreeOf: the reference's reader of a text is what the program's is. Condition: at most 3000 letters. -/
namespace Go.Proofs.YteidgdpaolieaaaGreatDoor
open Go.RowKit
set_option maxHeartbeats 4000000 in
set_option maxRecDepth 100000 in
theorem rf_TreeOf : TreeOfC := by
  intro s w hs
  have HT := Lib.hid (rf_TokensOf s w (by omega))
  have htb := Mk.toks_bulk s
  have hok := Mk.toks_ok s
  have hbr := Mk.boR_build (Mk.toks s) hok
  obtain ⟨L, hL⟩ : ∃ L, Mk.toks s = L := ⟨_, rfl⟩
  rw [hL] at HT htb hok hbr ⊢
  have HBR := Lib.hid hbr
  have HBC := Lib.hid (rf_BuildOf L hok (by omega) (L.length + 1) 0 (Nat.zero_le _) (by omega))
  clear hok hbr hL htb hs
  go_enter Tryz.func25, Tryz.ntmps25
  go_wp2_with fail
  refine HT.out.mono ?_
  rintro e w1 ⟨v1, rfl, hv1, hb1⟩
  have HB := Lib.hid (HBC.out v1 (.slice none 0 0) [] (fun b => b < w1.heap.size) w1 (hv1.frame (fun b q => ⟨q.2, rfl⟩)) (StrsV.nil _ _) (fun b q => q) (Nat.zero_le _))
  have B1 := Lib.hid hb1
  obtain ⟨ao1, cap1, xs1, hvs1, _⟩ := hv1
  subst hvs1
  clear hb1 HT HBC
  go_wp2_with fail
  refine HB.out.mono ?_
  rintro e w2 ⟨v2, j, rfl, hv2, _, _, _, hb2⟩
  rw [List.drop_zero, HBR.out] at hv2
  have B2 := Lib.hid (B1.out.trans (hb2.mono B1.out.size))
  have HF : Hid (FoV w2 (fun b => w.heap.size ≤ b ∧ b < w2.heap.size) v2 (Mk.build L)) := hv2.frame (fun b q => ⟨⟨Nat.le_trans B1.out.size q.1, q.2⟩, rfl⟩)
  obtain ⟨ao2, cap2, xs2, hvs2, _⟩ := hv2
  subst hvs2
  clear hb2 HB B1
  go_wp2_with fail
  go_ret
  exact ⟨_, rfl, HF.out, B2.out⟩
end Go.Proofs.YteidgdpaolieaaaGreatDoor
