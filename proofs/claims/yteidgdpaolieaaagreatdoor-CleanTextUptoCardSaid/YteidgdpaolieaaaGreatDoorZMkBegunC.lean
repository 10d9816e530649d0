/- Contract of the law's cleanBegun: what must be in any case, is. -/
import Derived.Test.YteidgdpaolieaaaGreatDoorZMkHtml
import Derived.Test.YteidgdpaolieaaaGreatDoorZMkSame
namespace Mk
def base0 : Bs := [104, 116, 116, 112, 58, 47, 47, 97, 47, 98]
def s0 : Bs := [60, 115, 101, 99, 116, 105, 111, 110, 62, 60, 112, 32, 111, 110, 99, 108, 105, 99, 107, 61, 120, 62, 97, 60, 115, 99, 114, 105, 112, 116, 62, 98, 60, 47, 115, 99, 114, 105, 112, 116, 62, 60, 97, 32, 104, 114, 101, 102, 61, 99, 62, 100, 60, 47, 97, 62, 60, 97, 32, 104, 114, 101, 102, 61, 39, 106, 97, 118, 97, 115, 99, 114, 105, 112, 116, 58, 101, 39, 62, 102, 60, 47, 97, 62, 60, 105, 109, 103, 62, 103]
def want0 : Bs := [60, 112, 62, 97, 60, 97, 32, 104, 114, 101, 102, 61, 34, 104, 116, 116, 112, 58, 47, 47, 97, 47, 99, 34, 62, 100, 60, 47, 97, 62, 60, 97, 62, 102, 60, 47, 97, 62, 103, 60, 47, 112, 62]
set_option maxRecDepth 100000
theorem html0 : html base0 s0 = want0 := by decide +kernel
theorem fits0 : Fits base0 s0 := ⟨by decide, by decide +kernel, by decide +kernel, by decide +kernel, by rw [html0]; decide⟩
def short (s : Bs) : Bool := decide (s.length < 32) && s.all fun b => (reps.lookup b).isNone
def tokShort (t : Tok) : Bool := short t.text && t.ats.all fun a => short a.v
theorem flat0 : (flat (clean base0 (build (toks s0)))).all tokShort = true := by decide +kernel
theorem page_check : checkT page = 0 := by decide +kernel
theorem page_clean : clean [] page = page := by decide +kernel
theorem page_safe : safeF page = true := by decide +kernel
def script : Fo := .node [115, 99, 114, 105, 112, 116] [] [] .nil .nil
theorem script_check : checkT script = 0 := by decide +kernel
theorem script_safe : safeF script = false := by decide +kernel
end Mk
namespace Go.Proofs.YteidgdpaolieaaaGreatDoor
open Go.RowKit
theorem tells_of {s : List UInt8} (h : Mk.short s = true) : Tells s := by
  unfold Mk.short at h
  rw [Bool.and_eq_true, decide_eq_true_iff, List.all_eq_true] at h
  exact tells_short s h.1 (fun b hb => Option.isNone_iff_eq_none.1 (h.2 b hb))
theorem tells0 : ∀ t ∈ Mk.flat (Mk.clean Mk.base0 (Mk.build (Mk.toks Mk.s0))), TokTells t := by
  intro t ht
  have h := List.all_eq_true.1 Mk.flat0 t ht
  unfold Mk.tokShort at h
  rw [Bool.and_eq_true, List.all_eq_true] at h
  exact ⟨fun _ => tells_of h.1, fun a ha => tells_of (h.2 a ha)⟩
set_option maxHeartbeats 4000000 in
set_option maxRecDepth 100000 in
theorem lw_cleanBegun (w : World) (hg : Gl w) :
    Calls Tryz.prog 14 #[] w fun e w' => e = .returned (.bool true) ∧ Below w.heap.size w w' := by
  have hlt := hg.lt
  have HH := Lib.hid (cl_Html Mk.base0 Mk.s0 w hg (by decide) Mk.fits0 tells0)
  rw [Mk.html0, show Mk.want0 = [60, 112, 62, 97, 60, 97, 32, 104, 114, 101, 102, 61, 34, 104, 116, 116, 112, 58, 47, 47, 97, 47, 99, 34, 62, 100, 60, 47, 97, 62, 60, 97, 62, 102, 60, 47, 97, 62, 103, 60, 47, 112, 62] from rfl] at HH
  go_enter Tryz.func14, Tryz.ntmps14
  go_wp2_with fail
  refine HH.out.mono ?_
  rintro e w1 ⟨rfl, hb1⟩
  have B1 := Lib.hid hb1
  clear HH hb1
  go_wp2_with fail
  refine (lw_page w1).mono ?_
  rintro e w2 ⟨v2, rfl, hv2, hb2⟩
  have B2 := Lib.hid (B1.out.trans (hb2.mono B1.out.size))
  have HT := Lib.hid (cl_Tree [] Mk.page v2 _ w2 (by decide) hv2 (fun b q => q.2))
  clear hb2 hv2
  go_wp2_with fail
  refine HT.out.mono ?_
  rintro e w3 ⟨v3, c, rfl, hc, _, hv3, hb3⟩
  rw [Mk.page_check, if_neg (by decide), if_neg (by decide)] at hc
  subst hc
  have hv3 := hv3 rfl
  rw [Mk.page_clean] at hv3
  have B3 := Lib.hid (B2.out.trans (hb3.mono B2.out.size))
  have HV3 : Hid (FoV w3 (fun b => b < w3.heap.size) v3 Mk.page) := hv3.frame (fun b q => ⟨q.elim (fun q => Nat.lt_of_lt_of_le q.2 hb3.size) (fun q => q.2), rfl⟩)
  obtain ⟨ao3, cap3, xs3, hv3s, _⟩ := hv3
  subst hv3s
  clear hb3 HT
  go_wp2_with fail
  refine (lw_page w3).mono ?_
  rintro e w4 ⟨v4, rfl, hv4, hb4⟩
  have B4 := Lib.hid (B3.out.trans (hb4.mono B3.out.size))
  have HI := Lib.hid (cl_Is Mk.page v4 _ w4 (by decide) hv4 (fun b q => q.2))
  rw [Mk.page_check, Mk.page_safe, show (decide ((0 : Int) = 0) && true) = true from rfl] at HI
  have HV4 : Hid (FoV w4 (fun b => b < w4.heap.size) (.slice ao3 Mk.page.len cap3) Mk.page) := HV3.out.frame (fun b q => ⟨Nat.lt_of_lt_of_le q hb4.size, hb4.block b q⟩)
  clear hb4 hv4 HV3
  go_wp2_with fail
  refine HI.out.mono ?_
  rintro e w5 ⟨rfl, hb5⟩
  have B5 := Lib.hid (B4.out.trans (hb5.mono B4.out.size))
  have HV5 : Hid (FoV w5 (fun b => b < w5.heap.size) (.slice ao3 Mk.page.len cap3) Mk.page) := HV4.out.frame (fun b q => ⟨Nat.lt_of_lt_of_le q hb5.size, hb5.block b q⟩)
  clear hb5 HI HV4
  have hal := (Below.refl w5.heap.size w5).alloc (Nat.le_refl _) (.cells (nodeCells [115, 99, 114, 105, 112, 116] [] (.slice none 0 0) ++ []).toArray 52)
  have HS : FoV (w5.alloc (.cells (nodeCells [115, 99, 114, 105, 112, 116] [] (.slice none 0 0) ++ []).toArray 52)) (fun b => b = w5.heap.size) (.slice (some ⟨w5.heap.size, 0, none⟩) 1 1) Mk.script := FoV.of_blk (K := fun b => b = w5.heap.size) (f := Mk.script) (Blk.new w5 52 (nodeCells [115, 99, 114, 105, 112, 116] [] (.slice none 0 0) ++ []).toArray) rfl (FCells.one (k := .nil) (r := .nil) (FoV.nil0 _ _) (FCells.nil0 _ _)) (by decide)
  have HI := Lib.hid (cl_Is Mk.script _ _ _ (by decide) HS (fun b q => by subst q; simp))
  rw [Mk.script_check, Mk.script_safe, show (decide ((0 : Int) = 0) && false) = false from rfl] at HI
  have HAL := Lib.hid hal
  clear hal HS
  go_wp2_with fail
  refine HI.out.mono ?_
  rintro e w6 ⟨rfl, hb6⟩
  have L6 := Lib.hid (HAL.out.trans (hb6.mono HAL.out.size))
  have B6 := Lib.hid (B5.out.trans (L6.out.mono B5.out.size))
  have HV6 : Hid (FoV w6 (fun b => b < w6.heap.size) (.slice ao3 Mk.page.len cap3) Mk.page) := HV5.out.frame (fun b q => ⟨Nat.lt_of_lt_of_le q L6.out.size, L6.out.block b q⟩)
  clear hb6 HI HV5
  have hst : ∀ l : List UInt8, (st l).toList = l := fun l => Lib.toList_data _
  clear hv3 B5 B4 B3 B2 B1 HAL L6
  go_wp2_with fail
  refine (lw_page w6).mono ?_
  rintro e w7 ⟨v7, rfl, hv7, hb7⟩
  have B7 := Lib.hid (B6.out.trans (hb7.mono B6.out.size))
  have HV7 : FoV w7 (fun b => b < w7.heap.size) (.slice ao3 Mk.page.len cap3) Mk.page := HV6.out.frame (fun b q => ⟨Nat.lt_of_lt_of_le q hb7.size, hb7.block b q⟩)
  have HSN := Lib.hid (rf_SameNodes (Mk.page.bulk + 1) Mk.page (Nat.lt_succ_self _) (by decide) _ v7 _ _ w7 HV7 hv7 (fun b q => q) (fun b q => q.2))
  clear hb7 hv7 HV7 HV6 B6
  go_wp2_with fail
  refine HSN.out.mono ?_
  rintro e w8 ⟨rfl, hb8⟩
  have B8 := Lib.hid (B7.out.trans (hb8.mono B7.out.size))
  clear hb8 HSN B7
  go_wp2_with fail
  go_ret
  exact ⟨rfl, B8.out⟩
/-- the law: all text stays. -/
theorem lw_CleanText (base : List UInt8) (f : Mk.Fo) (v : Value) (K : Nat → Prop) (w : World) (hg : Gl w) (hf : f.bulk ≤ 1048576) (hv : FoV w K v f) (hK : ∀ b, K b → b < w.heap.size) :
    Calls Tryz.prog 4 #[.string (st base), v] w fun e w' => e = .returned (.bool true) ∧ Below w.heap.size w w' := by
  have hlt := hg.lt
  have HT := Lib.hid (cl_Tree base f v K w hf hv hK)
  have HV := Lib.hid hv
  have HK := Lib.hid hK
  have HG := Lib.hid hg
  have hr := Mk.checkT_right f
  have HR : Hid (Mk.checkT f = 0 → Mk.textIn false (Mk.clean base f) = Mk.textIn true f) := fun h => Mk.clean_text base f (hr h)
  have HCB := Lib.hid (Mk.cleanOn_bulk base f .nil).1
  clear hr hv hK hg
  go_enter Tryz.func4, Tryz.ntmps4
  go_wp2_with fail
  refine HT.out.mono ?_
  rintro e w1 ⟨v1, c, rfl, hc, hc1, hc0, hb1⟩
  have B1 := Lib.hid hb1
  have HC1 := Lib.hid hc1
  have HC0 := Lib.hid hc0
  have HC := Lib.hid hc
  have HBG := Lib.hid (lw_cleanBegun w1 (HG.out.below hb1 hlt))
  clear hb1 hc1 hc0 hc HT
  go_wp2_with fail
  refine HBG.out.mono ?_
  rintro e w2 ⟨rfl, hb2⟩
  have B2 := Lib.hid (B1.out.trans (hb2.mono B1.out.size))
  by_cases h0 : c = 0
  · subst h0
    have hck : Mk.checkT f = 0 := by
      have h := HC.out
      by_cases hk : Mk.checkT f = 0
      · exact hk
      · rw [if_pos hk] at h; exact absurd h.symm hk
    have hv1 := HC0.out rfl
    have hl1 : (Mk.clean base f).bulk ≤ 3001 * f.bulk := by
      have h := HCB.out
      have e : Mk.Fo.bulk .nil = 0 := rfl
      rw [e] at h
      exact Nat.le_trans h (by omega)
    have HT1 := Lib.hid (lw_textIn ((Mk.clean base f).bulk + 1) (Mk.clean base f) (Nat.lt_succ_self _) (by omega) false v1 _ w2 (hv1.frame (K' := fun b => b < w2.heap.size) (fun b q => by
      have hb : b < w1.heap.size := q.elim (fun q => Nat.lt_of_lt_of_le (HK.out b q) B1.out.size) (fun q => q.2)
      exact ⟨Nat.lt_of_lt_of_le hb hb2.size, hb2.block b hb⟩)) (fun b q => q))
    have HEQ := Lib.hid (HR.out hck)
    rw [HEQ.out] at HT1
    obtain ⟨ao1, cap1, xs1, hv1s, _⟩ := hv1
    subst hv1s
    clear hb2 HBG hck HC0 HC1 HC
    have HEQ2 : Hid (st (Mk.textIn true f) = st (Mk.textIn true f)) := rfl
    go_wp2_with fail
    refine HT1.out.mono ?_
    rintro e w3 ⟨rfl, hb3⟩
    have B3 := Lib.hid (B2.out.trans (hb3.mono B2.out.size))
    have HT2 := Lib.hid (lw_textIn (f.bulk + 1) f (Nat.lt_succ_self _) (by omega) true v K w3 (HV.out.below HK.out B3.out) (fun b q => Nat.lt_of_lt_of_le (HK.out b q) B3.out.size))
    clear hb3 HT1 HV
    go_wp2_with fail
    refine HT2.out.mono ?_
    rintro e w4 ⟨rfl, hb4⟩
    have B4 := Lib.hid (B3.out.trans (hb4.mono B3.out.size))
    have hst : ∀ l : List UInt8, (st l).toList = l := fun l => Lib.toList_data _
    clear hb4 HT2
    go_wp2_with fail
    go_ret
    exact ⟨ret_bool (by simp), B4.out⟩
  · have hv1 := HC1.out h0
    subst hv1
    have hcb : (c == 0) = false := beq_eq_false_iff_ne.2 h0
    clear hb2 HBG HC0 HC1 HC h0
    go_wp2_with fail
    go_ret
    exact ⟨rfl, B2.out⟩
end Go.Proofs.YteidgdpaolieaaaGreatDoor
