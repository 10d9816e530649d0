/- Contract of the law CleanStays: what is clean is clean for good. -/
import Derived.Test.YteidgdpaolieaaaGreatDoorZMkChk
import Derived.Test.YteidgdpaolieaaaGreatDoorZMkRep6
namespace Go.Proofs.YteidgdpaolieaaaGreatDoor
open Go.RowKit
theorem tells_html (base s : List UInt8) (hs : s.length ≤ 3000) : ∀ t ∈ Mk.flat (Mk.clean base (Mk.build (Mk.toks s))), TokTells t := by
  intro t ht
  have h1 := Mk.toks_bulk s
  have h2 := Mk.build_bulk (Mk.toks s)
  have h3 := Mk.clean_bulk base (Mk.build (Mk.toks s))
  obtain ⟨h4, h5⟩ := Mk.flat_mem _ t ht
  exact ⟨fun _ => tells_any _ (by omega), fun a ha => tells_any _ (by have := h5 a ha; omega)⟩
theorem cl_Html_ok (base s : List UInt8) (w : World) (hg : Gl w) (hb : base.length ≤ 3000) (hs : s.length ≤ 3000) :
    Calls Tryz.prog 9 #[.string (st base), .string (st s)] w fun e w' => e = .returned (.tuple #[.string (st (Mk.html base s)), .int .i64 0]) ∧ Below w.heap.size w w' :=
  cl_Html base s w hg hb (Mk.fits base s hs) (tells_html base s hs)
set_option maxHeartbeats 4000000 in
set_option maxRecDepth 100000 in
theorem cl_Html_long (base s : List UInt8) (w : World) (h : 3000 < base.length ∨ 3000 < s.length) :
    Calls Tryz.prog 9 #[.string (st base), .string (st s)] w fun e w' => e = .returned (.tuple #[.string (st []), .int .i64 2]) ∧ w' = w := by
  by_cases h1 : 3000 < base.length
  · have h2 : 3000 < (st base).size := by rw [st_size]; omega
    clear h h1
    go_enter Tryz.func9, Tryz.ntmps9
    go_wp2_with fail
    go_ret2
    exact ⟨rfl, rfl⟩
  · have h2 : ¬ 3000 < (st base).size := by rw [st_size]; omega
    have h3 : 3000 < (st s).size := by rw [st_size]; omega
    clear h h1
    go_enter Tryz.func9, Tryz.ntmps9
    go_wp2_with fail
    go_ret2
    exact ⟨rfl, rfl⟩
set_option maxHeartbeats 4000000 in
set_option maxRecDepth 100000 in
theorem lw_CleanStays (base s : List UInt8) (f : Mk.Fo) (v : Value) (K : Nat → Prop) (w : World) (hg : Gl w) (hf : f.bulk ≤ 1048576) (hv : FoV w K v f) (hK : ∀ b, K b → b < w.heap.size) :
    Calls Tryz.prog 5 #[.string (st base), .string (st s), v] w fun e w' => e = .returned (.bool true) ∧ Below w.heap.size w w' := by
  have hlt := hg.lt
  have hst : ∀ l : List UInt8, (st l).toList = l := fun l => Lib.toList_data _
  have HBG := Lib.hid (lw_cleanBegun w hg)
  have HV := Lib.hid hv
  have HK := Lib.hid hK
  have HG := Lib.hid hg
  obtain ⟨ao, cap, xs, hvs, _⟩ := hv
  subst hvs
  clear hK hg
  go_enter Tryz.func5, Tryz.ntmps5
  go_wp2_with fail
  refine HBG.out.mono ?_
  rintro e w1 ⟨rfl, hb1⟩
  have B1 := Lib.hid hb1
  have HTB := Lib.hid (lw_treeBegun w1 (HG.out.below hb1 hlt))
  clear hb1 HBG
  go_wp2_with fail
  refine HTB.out.mono ?_
  rintro e w2 ⟨rfl, hb2⟩
  have B2 := Lib.hid (B1.out.trans (hb2.mono B1.out.size))
  clear hb2 HTB B1
  have hhh : ∃ (T : List UInt8) (C : Int), Hid (C = 2 ∨ (C = 0 ∧ base.length ≤ 3000 ∧ Mk.html base T = T ∧ Mk.html [] T = T)) ∧ Calls Tryz.prog 9 #[.string (st base), .string (st s)] w2 fun e w' => e = .returned (.tuple #[.string (st T), .int .i64 C]) ∧ Below w2.heap.size w2 w' := by
    by_cases hlong : 3000 < base.length ∨ 3000 < s.length
    · exact ⟨[], 2, .inl rfl, (cl_Html_long base s w2 hlong).mono (by rintro e w3 ⟨rfl, rfl⟩; exact ⟨rfl, Below.refl _ _⟩)⟩
    · exact ⟨Mk.html base s, 0, .inr ⟨rfl, by omega, Mk.html_again base base s (Mk.light_light base), Mk.html_again [] base s (fun v => Mk.light_nil _)⟩, cl_Html_ok base s w2 (HG.out.below B2.out hlt) (by omega) (by omega)⟩
  obtain ⟨t, C, HTC, hh⟩ := hhh
  have HH := Lib.hid hh
  have e2 : (st t).size = t.length := st_size t
  clear hh
  go_wp2_with fail
  refine HH.out.mono ?_
  rintro e w3 ⟨rfl, hb3⟩
  have B3 := Lib.hid (B2.out.trans (hb3.mono B2.out.size))
  clear hb3 HH B2
  go_upto_region 4 with fail
  go_cut [36] (fun b wx => ∃ bb : Bool, b = .bool bb ∧ Hid (bb = true → C = 0 ∧ t.length ≤ 3000) ∧ w3 = wx)
  case first =>
    by_cases hc : C = 0
    · subst hc
      clear HTC
      by_cases htl : t.length ≤ 3000
      · have hti : (t.length : Int) ≤ 3000 := by omega
        go_wp2_with fail
        go_meet
        case rel => exact ⟨true, rfl, (fun _ => ⟨by trivial, htl⟩), rfl⟩
      · have hti : ¬ (t.length : Int) ≤ 3000 := by omega
        go_wp2_with fail
        go_meet
        case rel => exact ⟨false, rfl, (fun q => by cases q), rfl⟩
    · have hc2 : (C == 0) = false := beq_eq_false_iff_ne.2 hc
      clear hc HTC
      go_wp2_with fail
      go_meet
      case rel => exact ⟨false, rfl, (fun q => by cases q), rfl⟩
  case rest =>
  obtain ⟨bb, rfl, HBB, hwc⟩ := hcut
  subst hwc
  go_upto_if 36 with fail
  go_cut [] (fun wx => Hid (Below w.heap.size w wx))
  case first =>
    cases bb with
    | false =>
      clear HTC HBB
      go_wp2_with fail
      go_meet
      case rel => exact B3
    | true =>
      obtain ⟨hc, htl⟩ := HBB.out rfl
      rcases HTC.out with q | ⟨hc2, hbl, a1, a2⟩
      · exfalso; omega
      have A1 := Lib.hid a1
      have A2 := Lib.hid a2
      clear a1 a2 HTC HBB hc hc2
      have HH2 := Lib.hid (cl_Html_ok base t w3 (HG.out.below B3.out hlt) hbl htl)
      rw [A1.out] at HH2
      go_wp2_with fail
      refine HH2.out.mono ?_
      rintro e w4 ⟨rfl, hb4⟩
      have B4 := Lib.hid (B3.out.trans (hb4.mono B3.out.size))
      have HH3 := Lib.hid (cl_Html_ok [] t w4 (HG.out.below B4.out hlt) (Nat.zero_le _) htl)
      rw [A2.out] at HH3
      clear hb4 HH2
      go_wp2_with fail
      refine HH3.out.mono ?_
      rintro e w5 ⟨rfl, hb5⟩
      have B5 := Lib.hid (B4.out.trans (hb5.mono B4.out.size))
      clear hb5 HH3
      go_wp2_with fail
      go_meet
      case rel => exact B5
  case rest =>
    obtain ⟨wb, hwb⟩ : ∃ x, x = wc := ⟨_, rfl⟩
    subst hwb
    clear B3 HTC HBB
    have B3 := hcut
    have HT := Lib.hid (cl_Tree base f _ K wb (by omega) (HV.out.below HK.out B3.out) (fun b q => Nat.lt_of_lt_of_le (HK.out b q) B3.out.size))
    clear HV
    go_wp2_with fail
    refine HT.out.mono ?_
    rintro e w4 ⟨v4, c, rfl, hc, hc1, hc0, hb4⟩
    have B4 := Lib.hid (B3.out.trans (hb4.mono B3.out.size))
    by_cases h0 : c = 0
    · subst h0
      have hck : Mk.checkT f = 0 := by
        by_cases hk : Mk.checkT f = 0
        · exact hk
        · rw [if_pos hk] at hc; exact absurd hc.symm hk
      have hbl : ¬ 3000 < base.length := by
        intro q
        rw [if_neg (by simp [hck]), if_pos q] at hc
        cases hc
      have hv4 := hc0 rfl
      have HV4 : Hid (FoV w4 (fun b => b < w4.heap.size) v4 (Mk.clean base f)) := hv4.frame (fun b q => ⟨q.elim (fun q => Nat.lt_of_lt_of_le (HK.out b q) B4.out.size) (fun q => q.2), rfl⟩)
      obtain ⟨ao4, cap4, xs4, hv4s, _⟩ := hv4
      subst hv4s
      have hbk := Mk.clean_bulk2 base f hck
      have hcc := Mk.clean_checkT base f hck
      have hsf := Mk.clean_safe base f (Mk.checkT_right f hck)
      have hcf : Mk.checkF f [] false = 0 := by
        unfold Mk.checkT at hck
        split at hck
        · cases hck
        · exact hck
      have hag := Mk.clean_again base base (Mk.light_light base) f hcf
      generalize Mk.clean base f = a at HV4 hbk hcc hsf hag
      have hi := cl_Is a _ _ w4 (by omega) HV4.out (fun b q => q)
      rw [hcc, hsf, show (decide ((0 : Int) = 0) && true) = true from rfl] at hi
      have HI := Lib.hid hi
      have HCC := Lib.hid hcc
      have HAG := Lib.hid hag
      clear hc hc0 hc1 hck hcf hi hb4 HT hcc hsf hag
      go_wp2_with fail
      refine HI.out.mono ?_
      rintro e w5 ⟨rfl, hb5⟩
      have B5 := Lib.hid (B4.out.trans (hb5.mono B4.out.size))
      have HV5 : Hid (FoV w5 (fun b => b < w5.heap.size) (.slice ao4 a.len cap4) a) := HV4.out.frame (fun b q => ⟨Nat.lt_of_lt_of_le q hb5.size, hb5.block b q⟩)
      have HT2 := Lib.hid (cl_Tree base a _ _ w5 (by omega) HV5.out (fun b q => q))
      clear hb5 HI HV4 B4
      go_wp2_with fail
      refine HT2.out.mono ?_
      rintro e w6 ⟨v6, c6, rfl, hc6, _, hv6, hb6⟩
      rw [HCC.out, if_neg (by simp), if_neg hbl] at hc6
      subst hc6
      have hv6 := hv6 rfl
      rw [HAG.out] at hv6
      have B6 := Lib.hid (B5.out.trans (hb6.mono B5.out.size))
      have HU6 : Hid (FoV w6 (fun b => b < w6.heap.size) v6 a) := hv6.frame (fun b q => ⟨q.elim (fun q => Nat.lt_of_lt_of_le q hb6.size) (fun q => q.2), rfl⟩)
      have HV6 : Hid (FoV w6 (fun b => b < w6.heap.size) (.slice ao4 a.len cap4) a) := HV5.out.frame (fun b q => ⟨Nat.lt_of_lt_of_le q hb6.size, hb6.block b q⟩)
      obtain ⟨ao6, cap6, xs6, hv6s, _⟩ := hv6
      subst hv6s
      have HSN := Lib.hid (rf_SameNodes (a.bulk + 1) a (Nat.lt_succ_self _) (by omega) _ _ _ _ w6 HV6.out HU6.out (fun b q => q) (fun b q => q))
      clear hb6 HT2 HV5 B5 HU6
      go_wp2_with fail
      refine HSN.out.mono ?_
      rintro e w7 ⟨rfl, hb7⟩
      have B7 := Lib.hid (B6.out.trans (hb7.mono B6.out.size))
      have hck := tr_Check a _ _ w7 (by omega) (HV6.out.frame (K' := fun b => b < w7.heap.size) (fun b q => ⟨Nat.lt_of_lt_of_le q hb7.size, hb7.block b q⟩)) (fun b q => q)
      rw [HCC.out] at hck
      have HCK := Lib.hid hck
      clear hb7 HSN HV6 B6 hck
      go_wp2_with fail
      refine HCK.out.mono ?_
      rintro e w8 ⟨rfl, hb8⟩
      have B8 := Lib.hid (B7.out.trans (hb8.mono B7.out.size))
      clear hb8 HCK B7
      go_wp2_with fail
      go_ret
      exact ⟨rfl, B8.out⟩
    · have hv4 := hc1 h0
      subst hv4
      have hcb : (c == 0) = false := beq_eq_false_iff_ne.2 h0
      clear hc hc0 hc1 h0 HT hb4
      go_wp2_with fail
      go_ret
      exact ⟨rfl, B4.out⟩
end Go.Proofs.YteidgdpaolieaaaGreatDoor
