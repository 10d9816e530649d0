/- Contracts of the program's Markup and Html. Conditions on what is built; Told answers at every text and value that stays. -/
import Derived.Test.YteidgdpaolieaaaGreatDoorZMkRep3
import Derived.Test.YteidgdpaolieaaaGreatDoorZMkFlat1
import Derived.Test.YteidgdpaolieaaaGreatDoorZMkClean2
import Derived.Test.YteidgdpaolieaaaGreatDoorZMkTok8
import Derived.Test.YteidgdpaolieaaaGreatDoorZUrlPlain
import Derived.Deep.RegionHeld3
namespace Mk
/-- markup by its parts. -/
structure Fits (base s : Bs) : Prop where
  len : s.length ≤ 3000
  toks : Bld.tokB (toks s) ≤ 549755813000
  built : (build (Mk.toks s)).bulk ≤ 1048576
  out : (clean base (build (Mk.toks s))).bulk ≤ 549755813888
  bytes : (html base s).length ≤ 1099511627776
end Mk
namespace Go.Proofs.YteidgdpaolieaaaGreatDoor
open Go.RowKit
set_option maxHeartbeats 4000000 in
set_option maxRecDepth 100000 in
theorem cl_Markup (base s : List UInt8) (w : World) (hg : Gl w) (hf : Mk.Fits base s) (hT : ∀ t ∈ Mk.flat (Mk.clean base (Mk.build (Mk.toks s))), TokTells t) :
    Calls Tryz.prog 28 #[.string (st base), .string (st s)] w fun e w' => e = .returned (.string (st (Mk.html base s))) ∧ Below w.heap.size w w' := by
  have HA := Lib.hid (mk_All (st s) w hg (by have := hf.len; rw [st_size]; omega))
  have HF := Lib.hid hf
  have HT := Lib.hid hT
  have HE : Hid (Mk.bytes (Mk.flat (Mk.clean base (Mk.build (Mk.toks s)))) = Mk.html base s) := rfl
  clear hf hT
  go_enter Tryz.func28, Tryz.ntmps28
  go_wp2_with fail
  refine HA.out.mono ?_
  rintro e w1 ⟨v1, rfl, hv1, hb1⟩
  have B1 := Lib.hid hb1
  have HO := Lib.hid (tr_Of (Mk.toks s) v1 _ w1 hv1 (fun b q => q.2) HF.out.toks)
  clear hv1 hb1 HA
  go_wp2_with fail
  refine HO.out.mono ?_
  rintro e w2 ⟨v2, rfl, hv2, hb2⟩
  have B2 := Lib.hid (B1.out.trans (hb2.mono B1.out.size))
  have HC := Lib.hid (cl_Of base (Mk.build (Mk.toks s)) v2 _ w2 (Nat.le_trans HF.out.built (by decide)) hv2 (fun b q => q.2))
  clear hv2 HO
  go_wp2_with fail
  refine HC.out.mono ?_
  rintro e w3 ⟨v3, rfl, hv3, hb3⟩
  have B3 := Lib.hid (B2.out.trans (hb3.mono B2.out.size))
  have HK := Lib.hid (tr_Tokens ((Mk.clean base (Mk.build (Mk.toks s))).bulk + 1) (Mk.clean base (Mk.build (Mk.toks s))) (Nat.lt_succ_self _) HF.out.out v3 _ w3 hv3 (fun b q => q.elim (fun q => Nat.lt_of_lt_of_le q.2 hb3.size) (fun q => q.2)))
  clear hv3 hb3 hb2 HC
  go_wp2_with fail
  refine HK.out.mono ?_
  rintro e w4 ⟨v4, xs4, rfl, hv4, _, hb4⟩
  have B4 := Lib.hid (B3.out.trans (hb4.mono B3.out.size))
  have HB := Lib.hid (tk_Bytes (Mk.flat (Mk.clean base (Mk.build (Mk.toks s)))) v4 _ w4 hv4.toksV (fun b q => q.2) HT.out HF.out.bytes)
  clear hv4 hb4 HK
  go_wp2_with fail
  refine HB.out.mono ?_
  rintro e w5 ⟨rfl, hb5⟩
  have B5 := Lib.hid (B4.out.trans (hb5.mono B4.out.size))
  clear hb5 HB
  go_wp2_with fail
  go_ret
  exact ⟨by rw [← HE.out]; rfl, B5.out⟩
set_option maxHeartbeats 4000000 in
set_option maxRecDepth 100000 in
theorem cl_Html (base s : List UInt8) (w : World) (hg : Gl w) (hb : base.length ≤ 3000) (hf : Mk.Fits base s) (hT : ∀ t ∈ Mk.flat (Mk.clean base (Mk.build (Mk.toks s))), TokTells t) :
    Calls Tryz.prog 9 #[.string (st base), .string (st s)] w fun e w' => e = .returned (.tuple #[.string (st (Mk.html base s)), .int .i64 0]) ∧ Below w.heap.size w w' := by
  have HM := Lib.hid (cl_Markup base s w hg hf hT)
  have h1 : ¬ 3000 < (st base).size := by rw [st_size]; omega
  have h2 : ¬ 3000 < (st s).size := by have := hf.len; rw [st_size]; omega
  clear hf hT
  go_enter Tryz.func9, Tryz.ntmps9
  go_wp2_with fail
  refine HM.out.mono ?_
  rintro e w1 ⟨rfl, hb1⟩
  have B1 := Lib.hid hb1
  clear hb1 HM
  go_wp2_with fail
  go_ret2
  exact ⟨rfl, B1.out⟩
end Go.Proofs.YteidgdpaolieaaaGreatDoor

/- The plain law of CleanText: of a forest that is right all text stays, but what is in elements that go. No program in sight. -/
namespace Mk
namespace Fo
/-- what a check makes sure of: texts hold nothing, elements have no text of their own, empty elements hold nothing. -/
def right : Fo → Prop
  | nil => True
  | node n _ t k r => (n = [] → k = nil) ∧ (n ≠ [] → t = []) ∧ (emptyB n = true → k = nil) ∧ right k ∧ right r
end Fo
open Fo

theorem snoc_right (n : Bs) (a : List At) (t : Bs) (k : Fo) (h1 : n = [] → k = nil) (h2 : n ≠ [] → t = []) (h3 : emptyB n = true → k = nil) (hk : right k) : ∀ f, right f → right (snoc n a t k f) := by
  intro f
  induction f with
  | nil => intro _; exact ⟨h1, h2, h3, hk, trivial⟩
  | node n' a' t' k' r _ ih =>
    intro h
    obtain ⟨g1, g2, g3, g4, g5⟩ := h
    cases r with
    | nil =>
      unfold snoc
      split
      · rename_i e
        exact ⟨g1, fun hn => absurd e.2 hn, g3, g4, trivial⟩
      · exact ⟨g1, g2, g3, g4, h1, h2, h3, hk, trivial⟩
    | node m b u j r' => exact ⟨g1, g2, g3, g4, ih g5⟩
theorem joins_right : ∀ g f, right f → right g → right (joins f g) := by
  intro g
  induction g with
  | nil => intro f hf _; exact hf
  | node n a t k r _ ih =>
    intro f hf h
    obtain ⟨g1, g2, g3, g4, g5⟩ := h
    exact ih _ (snoc_right n a t k g1 g2 g3 g4 f hf) g5
theorem snoc_text (n : Bs) (a : List At) (t : Bs) (k : Fo) (h1 : n = [] → k = nil) : ∀ f, right f → textIn false (snoc n a t k f) = textIn false f ++ (t ++ textIn false k) := by
  intro f
  induction f with
  | nil => intro _; simp [snoc, textIn]
  | node n' a' t' k' r _ ih =>
    intro h
    obtain ⟨g1, g2, g3, g4, g5⟩ := h
    cases r with
    | nil =>
      unfold snoc
      split
      · rename_i e
        obtain ⟨e1, e2⟩ := e
        rw [g1 e2, h1 e1]
        simp [textIn]
      · simp [textIn]
    | node m b u j r' =>
      have e : snoc n a t k (node n' a' t' k' (node m b u j r')) = node n' a' t' k' (snoc n a t k (node m b u j r')) := rfl
      rw [e]
      have := ih g5
      simp only [textIn, Bool.false_and, Bool.false_eq_true, if_false] at this ⊢
      rw [this]
      simp
theorem joins_text : ∀ g f, right f → right g → textIn false (joins f g) = textIn false f ++ textIn false g := by
  intro g
  induction g with
  | nil => intro f _ _; simp [joins, textIn]
  | node n a t k r _ ih =>
    intro f hf h
    obtain ⟨g1, g2, g3, g4, g5⟩ := h
    have e : joins f (node n a t k r) = joins (snoc n a t k f) r := rfl
    rw [e, ih _ (snoc_right n a t k g1 g2 g3 g4 f hf) g5, snoc_text n a t k g1 f hf]
    simp [textIn]
theorem allowed_ne (n : Bs) (h : allowedB n = true) : n ≠ [] := by rintro rfl; exact absurd h (by decide)
theorem empty_ne : emptyB [] = false := by decide
/-- what stays is right, and holds the text. -/
theorem cleanOn_law (base : Bs) : ∀ f out, right f → right out → right (cleanOn base out f) ∧ textIn false (cleanOn base out f) = textIn false out ++ textIn true f := by
  intro f
  induction f with
  | nil => intro out _ ho; exact ⟨ho, by simp [cleanOn, textIn]⟩
  | node n a t k r ihk ihr =>
    intro out hf ho
    obtain ⟨g1, g2, g3, g4, g5⟩ := hf
    obtain ⟨k1, k2⟩ := ihk nil g4 trivial
    have k2' : textIn false (cleanOn base nil k) = textIn true k := by rw [k2]; simp [textIn]
    unfold cleanOn
    by_cases hn : n = []
    · rw [if_pos hn]
      subst hn
      have hk := g1 rfl
      subst hk
      obtain ⟨r1, r2⟩ := ihr _ g5 (snoc_right [] a t nil (fun _ => rfl) (fun h => absurd rfl h) (fun _ => rfl) trivial out ho)
      refine ⟨r1, ?_⟩
      rw [r2, snoc_text [] a t nil (fun _ => rfl) out ho]
      simp [textIn, goneB]
    rw [if_neg hn]
    have ht := g2 hn
    subst ht
    by_cases hg : goneB n = true
    · rw [if_pos hg]
      obtain ⟨r1, r2⟩ := ihr _ g5 ho
      exact ⟨r1, by rw [r2]; simp [textIn, hg]⟩
    rw [if_neg hg]
    have hg' : goneB n = false := by simpa using hg
    simp only
    by_cases hal : allowedB n = true
    · rw [if_neg (by simp [hal])]
      by_cases hi : n = [105, 109, 103] ∧ hasAt (cleanAts base n a) [115, 114, 99] = false
      · rw [if_pos hi]
        obtain ⟨r1, r2⟩ := ihr _ g5 ho
        refine ⟨r1, ?_⟩
        have hk := g3 (by rw [hi.1]; decide)
        subst hk
        rw [r2]
        simp [textIn, hg']
      · rw [if_neg hi]
        have hk3 : emptyB n = true → cleanOn base nil k = nil := fun h => by rw [g3 h]; rfl
        obtain ⟨r1, r2⟩ := ihr _ g5 (snoc_right n (cleanAts base n a) [] (cleanOn base nil k) (fun h => absurd h hn) (fun _ => rfl) hk3 k1 out ho)
        refine ⟨r1, ?_⟩
        rw [r2, snoc_text n _ [] _ (fun h => absurd h hn) out ho, k2']
        simp [textIn, hg']
    · rw [if_pos (by simpa using hal)]
      obtain ⟨r1, r2⟩ := ihr _ g5 (joins_right _ out ho k1)
      refine ⟨r1, ?_⟩
      rw [r2, joins_text _ out ho k1, k2']
      simp [textIn, hg']
theorem clean_text (base : Bs) (f : Fo) (h : right f) : textIn false (clean base f) = textIn true f := by
  rw [clean, (cleanOn_law base f nil h trivial).2]; simp [textIn]
theorem check_right : ∀ f names prev, checkF f names prev = 0 → right f := by
  intro f
  induction f with
  | nil => intro _ _ _; trivial
  | node n a t k r ihk ihr =>
    intro names prev h
    unfold checkF at h
    by_cases h1 : nodeE names n a t k ≠ 0
    · rw [if_pos h1] at h; exact absurd h h1
    rw [if_neg h1] at h
    by_cases h2 : n = [] ∧ prev
    · rw [if_pos h2] at h; cases h
    rw [if_neg h2] at h
    by_cases h3 : checkF k (names ++ [n]) false ≠ 0
    · rw [if_pos h3] at h; exact absurd h h3
    rw [if_neg h3] at h
    have hk := ihk _ _ (by simpa using h3)
    have hr := ihr _ _ h
    have h1' : nodeE names n a t k = 0 := by simpa using h1
    unfold nodeE at h1'
    by_cases hn : n = []
    · rw [if_pos hn] at h1'
      by_cases hq : t = [] ∨ a ≠ [] ∨ k ≠ nil
      · rw [if_pos hq] at h1'; cases h1'
      · refine ⟨fun _ => ?_, fun h => absurd hn h, fun he => ?_, hk, hr⟩
        · exact Classical.byContradiction fun hc => hq (.inr (.inr hc))
        · rw [hn] at he; exact absurd he (by decide)
    · rw [if_neg hn] at h1'
      by_cases hq : t ≠ [] ∨ !isName n ∨ (emptyB n ∧ k ≠ nil)
      · rw [if_pos hq] at h1'; cases h1'
      · refine ⟨fun h => absurd h hn, fun _ => ?_, fun he => ?_, hk, hr⟩
        · exact Classical.byContradiction fun hc => hq (.inl hc)
        · exact Classical.byContradiction fun hc => hq (.inr (.inr ⟨he, hc⟩))
theorem checkT_right (f : Fo) (h : checkT f = 0) : right f := by
  unfold checkT at h
  split at h
  · cases h
  · exact check_right f _ _ h
end Mk

/- The plain law of trees: what is clean is right, and cleaned again it is the same; a right tree built of its own tokens is the same; what is built is right. No program in sight. -/
namespace Mk
open Fo
namespace Fo
def depth : Fo → Nat | nil => 0 | node n _ _ k r => if n = [] then r.depth else max (k.depth + 1) r.depth
def count : Fo → Nat | nil => 0 | node _ _ _ k r => k.count + r.count + 1
def endsT : Fo → Bool | nil => false | node n _ _ _ nil => decide (n = []) | node _ _ _ _ (node m b u j r) => endsT (node m b u j r)
theorem app_nil : ∀ f : Fo, f.app nil = f
  | nil => rfl
  | node n a t k r => by show node n a t k (r.app nil) = _; rw [app_nil r]
theorem app_assoc : ∀ f g h : Fo, (f.app g).app h = f.app (g.app h)
  | nil, _, _ => rfl
  | node n a t k r, g, h => by show node n a t k ((r.app g).app h) = node n a t k (r.app (g.app h)); rw [app_assoc r g h]
theorem snoc_app (n : Bs) (a : List At) (t : Bs) (k : Fo) : ∀ f : Fo, ¬(n = [] ∧ endsT f = true) → snoc n a t k f = f.app (node n a t k nil)
  | nil, _ => rfl
  | node n' a' t' k' nil, h => by
    have h2 : ¬(n = [] ∧ n' = []) := fun e => h ⟨e.1, by simp [endsT, e.2]⟩
    unfold snoc
    rw [if_neg h2]
    rfl
  | node n' a' t' k' (node m b u j r), h => by
    have h2 := snoc_app n a t k (node m b u j r) h
    show node n' a' t' k' (snoc n a t k (node m b u j r)) = node n' a' t' k' _
    rw [h2]
theorem ends_app (n : Bs) (a : List At) (t : Bs) (k : Fo) : ∀ f : Fo, endsT (f.app (node n a t k nil)) = decide (n = [])
  | nil => rfl
  | node n' a' t' k' nil => rfl
  | node n' a' t' k' (node m b u j r) => ends_app n a t k (node m b u j r)
end Fo
/-! How many nodes, and how deep. -/
theorem size_to : ∀ (f : Fo) (m : Nat), right f → f.depth ≤ m → sizeF m f = (f.count, f.depth) := by
  intro f
  induction f with
  | nil => intro m _ _; cases m <;> rfl
  | node n a t k r ihk ihr =>
    intro m h hd
    obtain ⟨g1, g2, g3, g4, g5⟩ := h
    by_cases hn : n = []
    · have hk := g1 hn
      subst hk
      simp only [depth, hn, if_true] at hd
      have q := ihr m g5 hd
      cases m <;> simp [sizeF, hn, q, count, depth]
    · simp only [depth, hn, if_false] at hd
      cases m with
      | zero => omega
      | succ m =>
        have q := ihr (m + 1) g5 (by omega)
        have q2 := ihk m g4 (by omega)
        simp only [sizeF, hn, if_false, q, q2, count, depth]
        congr 1
        omega
theorem size_from : ∀ (f : Fo) (m : Nat), right f → (sizeF m f).2 ≤ m → f.depth ≤ m := by
  intro f
  induction f with
  | nil => intro m _ _; exact Nat.zero_le _
  | node n a t k r ihk ihr =>
    intro m h hd
    obtain ⟨g1, g2, g3, g4, g5⟩ := h
    by_cases hn : n = []
    · have e : (sizeF m (node n a t k r)).2 = (sizeF m r).2 := by cases m <;> simp [sizeF, hn]
      rw [e] at hd
      simp only [depth, hn, if_true]
      exact ihr m g5 hd
    · cases m with
      | zero =>
        simp only [sizeF, hn, if_false] at hd
        omega
      | succ m =>
        simp only [sizeF, hn, if_false] at hd
        have q := ihr (m + 1) g5 (by omega)
        have q2 := ihk m g4 (by omega)
        simp only [depth, hn, if_false]
        omega
theorem snoc_count (n : Bs) (a : List At) (t : Bs) (k : Fo) : ∀ f : Fo, (snoc n a t k f).count ≤ f.count + k.count + 1
  | nil => by simp [snoc, count]
  | node n' a' t' k' nil => by
    unfold snoc
    split
    · simp [count]; omega
    · simp [count]; omega
  | node n' a' t' k' (node m b u j r) => by
    have := snoc_count n a t k (node m b u j r)
    show k'.count + (snoc n a t k (node m b u j r)).count + 1 ≤ k'.count + (node m b u j r).count + 1 + k.count + 1
    omega
theorem snoc_depth (n : Bs) (a : List At) (t : Bs) (k : Fo) (D : Nat) (hk : n ≠ [] → k.depth + 1 ≤ D) : ∀ f : Fo, f.depth ≤ D → (snoc n a t k f).depth ≤ D
  | nil, _ => by
    by_cases hn : n = []
    · simp [snoc, depth, hn]
    · have := hk hn
      simp only [snoc, depth, hn, if_false]
      omega
  | node n' a' t' k' nil, h => by
    unfold snoc
    by_cases hn' : n' = []
    · by_cases hn : n = []
      · simp [hn, hn', depth]
      · have := hk hn
        simp only [hn, hn', false_and, if_false, depth, if_true]
        omega
    · simp only [hn', and_false, if_false, depth] at h ⊢
      by_cases hn : n = []
      · simp only [hn, if_true]
        exact h
      · have := hk hn
        simp only [hn, if_false]
        omega
  | node n' a' t' k' (node m b u j r), h => by
    show depth (node n' a' t' k' (snoc n a t k (node m b u j r))) ≤ D
    by_cases hn' : n' = []
    · have e : ∀ x, depth (node n' a' t' k' x) = x.depth := fun x => by simp [depth, hn']
      rw [e] at h ⊢
      exact snoc_depth n a t k D hk _ h
    · have e : ∀ x, depth (node n' a' t' k' x) = max (k'.depth + 1) x.depth := fun x => by simp [depth, hn']
      rw [e] at h ⊢
      have := snoc_depth n a t k D hk (node m b u j r) (by omega)
      omega
theorem node_depth {n : Bs} {a : List At} {t : Bs} {k r : Fo} {D : Nat} (h : (node n a t k r).depth ≤ D) : (n ≠ [] → k.depth + 1 ≤ D) ∧ r.depth ≤ D := by
  by_cases hn : n = []
  · simp only [depth, hn, if_true] at h
    exact ⟨fun q => absurd hn q, h⟩
  · simp only [depth, hn, if_false] at h
    exact ⟨fun _ => by omega, by omega⟩
theorem joins_depth (D : Nat) : ∀ g f : Fo, f.depth ≤ D → g.depth ≤ D → (joins f g).depth ≤ D := by
  intro g
  induction g with
  | nil => intro f h _; exact h
  | node n a t k r _ ih =>
    intro f h1 h2
    obtain ⟨q1, q2⟩ := node_depth h2
    exact ih _ (snoc_depth n a t k D q1 f h1) q2
theorem joins_count : ∀ g f : Fo, (joins f g).count ≤ f.count + g.count := by
  intro g
  induction g with
  | nil => intro f; exact Nat.le_refl _
  | node n a t k r _ ih =>
    intro f
    have h1 := ih (snoc n a t k f)
    have h2 := snoc_count n a t k f
    show (joins (snoc n a t k f) r).count ≤ f.count + (k.count + r.count + 1)
    omega
theorem cleanOn_size (base : Bs) (D : Nat) : ∀ f out : Fo, (cleanOn base out f).count ≤ out.count + f.count ∧ (out.depth ≤ D → f.depth ≤ D → (cleanOn base out f).depth ≤ D) := by
  intro f
  induction f generalizing D with
  | nil => intro out; exact ⟨Nat.le_refl _, fun h _ => h⟩
  | node n a t k r ihk ihr =>
    intro out
    unfold cleanOn
    by_cases hn : n = []
    · rw [if_pos hn]
      obtain ⟨r1, r2⟩ := ihr D (snoc n a t k out)
      have := snoc_count n a t k out
      refine ⟨by simp only [count]; omega, fun h1 h2 => ?_⟩
      obtain ⟨q1, q2⟩ := node_depth h2
      exact r2 (snoc_depth n a t k D q1 out h1) q2
    rw [if_neg hn]
    by_cases hg : goneB n = true
    · rw [if_pos hg]
      obtain ⟨r1, r2⟩ := ihr D out
      exact ⟨by simp only [count]; omega, fun h1 h2 => r2 h1 (node_depth h2).2⟩
    rw [if_neg hg]
    simp only
    obtain ⟨k1, _⟩ := ihk 0 nil
    by_cases hal : allowedB n = true
    · rw [if_neg (by simp [hal])]
      by_cases hi : n = [105, 109, 103] ∧ hasAt (cleanAts base n a) [115, 114, 99] = false
      · rw [if_pos hi]
        obtain ⟨r1, r2⟩ := ihr D out
        exact ⟨by simp only [count]; omega, fun h1 h2 => r2 h1 (node_depth h2).2⟩
      · rw [if_neg hi]
        obtain ⟨r1, r2⟩ := ihr D (snoc n (cleanAts base n a) [] (cleanOn base nil k) out)
        have := snoc_count n (cleanAts base n a) [] (cleanOn base nil k) out
        refine ⟨by simp only [count] at k1 ⊢; omega, fun h1 h2 => ?_⟩
        obtain ⟨q1, q2⟩ := node_depth h2
        refine r2 (snoc_depth n _ [] _ D (fun h => ?_) out h1) q2
        have q3 := q1 h
        have := (ihk (D - 1) nil).2 (Nat.zero_le _) (by omega)
        omega
    · rw [if_pos (by simpa using hal)]
      obtain ⟨r1, r2⟩ := ihr D (joins out (cleanOn base nil k))
      have := joins_count (cleanOn base nil k) out
      refine ⟨by simp only [count] at k1 ⊢; omega, fun h1 h2 => ?_⟩
      obtain ⟨q1, q2⟩ := node_depth h2
      exact r2 (joins_depth D _ out h1 ((ihk D nil).2 (Nat.zero_le _) (by have := q1 hn; omega))) q2
/-! What is right. -/
theorem checkF_node (n : Bs) (a : List At) (t : Bs) (k r : Fo) (names : List Bs) (prev : Bool) : checkF (node n a t k r) names prev = 0 ↔ nodeE names n a t k = 0 ∧ ¬(n = [] ∧ prev = true) ∧ checkF k (names ++ [n]) false = 0 ∧ checkF r names (decide (n = [])) = 0 := by
  rw [checkF]
  by_cases h1 : nodeE names n a t k = 0
  · rw [if_neg (by simpa using h1)]
    by_cases h2 : n = [] ∧ prev = true
    · rw [if_pos h2]
      exact ⟨fun h => (by cases h), fun h => absurd h2 h.2.1⟩
    · rw [if_neg h2]
      by_cases h3 : checkF k (names ++ [n]) false = 0
      · rw [if_neg (by simpa using h3)]
        exact ⟨fun h => ⟨h1, h2, h3, h⟩, fun h => h.2.2.2⟩
      · rw [if_pos h3]
        exact ⟨fun h => absurd h h3, fun h => absurd h.2.2.1 h3⟩
  · rw [if_pos h1]
    exact ⟨fun h => absurd h h1, fun h => absurd h.1 h1⟩
theorem nodeE_text (names : List Bs) (a : List At) (t : Bs) (k : Fo) : nodeE names [] a t k = 0 ↔ t ≠ [] ∧ a = [] ∧ k = nil := by
  unfold nodeE
  rw [if_pos rfl]
  by_cases h : t = [] ∨ a ≠ [] ∨ k ≠ nil
  · rw [if_pos h]
    refine ⟨fun e => (by cases e), fun e => ?_⟩
    rcases h with h | h | h
    · exact absurd h e.1
    · exact absurd e.2.1 h
    · exact absurd e.2.2 h
  · rw [if_neg h]
    refine ⟨fun _ => ⟨fun e => h (.inl e), Classical.byContradiction fun e => h (.inr (.inl e)), Classical.byContradiction fun e => h (.inr (.inr e))⟩, fun _ => rfl⟩
theorem nodeE_el (names : List Bs) (n : Bs) (hn : n ≠ []) (a : List At) (t : Bs) (k : Fo) : nodeE names n a t k = 0 ↔ t = [] ∧ isName n = true ∧ (emptyB n = true → k = nil) ∧ checkAts isName [] a = 0 ∧ names.length ≤ stays names n := by
  unfold nodeE
  rw [if_neg hn]
  by_cases h : t ≠ [] ∨ (!isName n) = true ∨ (emptyB n = true ∧ k ≠ nil)
  · rw [if_pos h]
    refine ⟨fun e => (by cases e), fun e => ?_⟩
    rcases h with h | h | h
    · exact absurd e.1 h
    · rw [e.2.1] at h; cases h
    · exact absurd (e.2.2.1 h.1) h.2
  · rw [if_neg h]
    have f1 : t = [] := Classical.byContradiction fun e => h (.inl e)
    have f2 : isName n = true := by
      cases q : isName n with
      | true => rfl
      | false => exact absurd (.inr (.inl (by rw [q]; rfl))) h
    have f3 : emptyB n = true → k = nil := fun q => Classical.byContradiction fun e => h (.inr (.inr ⟨q, e⟩))
    by_cases h4 : checkAts isName [] a = 0
    · rw [if_neg (by simpa using h4)]
      by_cases h5 : stays names n < names.length
      · rw [if_pos h5]
        exact ⟨fun e => (by cases e), fun e => absurd h5 (Nat.not_lt.2 e.2.2.2.2)⟩
      · rw [if_neg h5]
        exact ⟨fun _ => ⟨f1, f2, f3, h4, Nat.not_lt.1 h5⟩, fun _ => rfl⟩
    · rw [if_pos h4]
      exact ⟨fun e => absurd e h4, fun e => absurd e.2.2.2.1 h4⟩
theorem snoc_check (names : List Bs) (n : Bs) (a : List At) (t : Bs) (k : Fo) (hn : nodeE names n a t k = 0) (hk : checkF k (names ++ [n]) false = 0) : ∀ (f : Fo) (prev : Bool), checkF f names prev = 0 → (f = nil → ¬(n = [] ∧ prev = true)) → checkF (snoc n a t k f) names prev = 0
  | nil, prev, _, h2 => (checkF_node n a t k nil names prev).2 ⟨hn, h2 rfl, hk, rfl⟩
  | node n' a' t' k' nil, prev, h, _ => by
    obtain ⟨g1, g2, g3, g4⟩ := (checkF_node ..).1 h
    unfold snoc
    split
    · rename_i e
      obtain ⟨e1, e2⟩ := e
      subst e2
      obtain ⟨q1, q2, q3⟩ := (nodeE_text ..).1 g1
      exact (checkF_node ..).2 ⟨(nodeE_text ..).2 ⟨by simp [q1], q2, q3⟩, g2, g3, rfl⟩
    · rename_i e
      refine (checkF_node ..).2 ⟨g1, g2, g3, (checkF_node ..).2 ⟨hn, fun q => e ⟨q.1, by simpa using q.2⟩, hk, rfl⟩⟩
  | node n' a' t' k' (node m b u j r), prev, h, _ => by
    obtain ⟨g1, g2, g3, g4⟩ := (checkF_node ..).1 h
    exact (checkF_node ..).2 ⟨g1, g2, g3, snoc_check names n a t k hn hk (node m b u j r) _ g4 (fun e => by cases e)⟩
theorem joins_check (names : List Bs) : ∀ (g : Fo) (p : Bool) (f : Fo), checkF f names false = 0 → checkF g names p = 0 → checkF (joins f g) names false = 0 := by
  intro g
  induction g with
  | nil => intro p f h _; exact h
  | node n a t k r _ ih =>
    intro p f h1 h2
    obtain ⟨g1, g2, g3, g4⟩ := (checkF_node ..).1 h2
    exact ih _ _ (snoc_check names n a t k g1 g3 f false h1 (fun _ q => by cases q.2)) g4
/-- names ahead of the innermost of a name. -/
def findR (x : Bs) (q : Bs → Bool) : List Bs → Option (List Bs)
  | [] => none
  | n :: r => if n = x then some r else if q n then none else findR x q r
theorem aboveR_find (x : Bs) (q : Bs → Bool) : ∀ l, aboveR x q l = (findR x q l).map List.length
  | [] => rfl
  | n :: r => by
    unfold aboveR findR
    by_cases h : n = x
    · rw [if_pos h, if_pos h]; rfl
    · rw [if_neg h, if_neg h]
      by_cases h2 : q n = true
      · rw [if_pos h2, if_pos h2]; rfl
      · rw [if_neg h2, if_neg h2]; exact aboveR_find x q r
theorem findR_suf (x : Bs) (q : Bs → Bool) : ∀ l r, findR x q l = some r → ∃ m, l = m ++ x :: r
  | [], _, h => by cases h
  | n :: l, r, h => by
    unfold findR at h
    by_cases h1 : n = x
    · rw [if_pos h1] at h
      injection h with h
      exact ⟨[], by rw [h1, h]; rfl⟩
    · rw [if_neg h1] at h
      by_cases h2 : q n = true
      · rw [if_pos h2] at h; cases h
      · rw [if_neg h2] at h
        obtain ⟨m, e⟩ := findR_suf x q l r h
        exact ⟨n :: m, by rw [e]; rfl⟩
theorem cutTo_find (x : Bs) (q : Bs → Bool) (l : List Bs) : cutTo l.reverse (above x q l.reverse) = ((findR x q l).getD l).reverse := by
  unfold above
  rw [List.reverse_reverse, aboveR_find]
  cases h : findR x q l with
  | none => rfl
  | some r =>
    obtain ⟨m, e⟩ := findR_suf x q l r h
    show l.reverse.take r.length = r.reverse
    rw [e]
    simp
def li : Bs := [108, 105]
def staysR (l : List Bs) (n : Bs) : List Bs :=
  let l1 := if blockB n then (findR [112] wallB l).getD l else l
  if n == li then (findR li listB l1).getD l1 else l1
theorem stays_R (l : List Bs) (n : Bs) : stays l.reverse n = (staysR l n).length := by
  unfold stays staysR
  simp only
  have e : (if blockB n = true then cutTo l.reverse (above [112] wallB l.reverse) else l.reverse) = (if blockB n = true then (findR [112] wallB l).getD l else l).reverse := by
    by_cases h : blockB n = true
    · rw [if_pos h, if_pos h, cutTo_find]
    · rw [if_neg h, if_neg h]
  rw [e]
  generalize (if blockB n = true then (findR [112] wallB l).getD l else l) = l1
  show (if (n == li) = true then cutTo l1.reverse (above li listB l1.reverse) else l1.reverse).length = _
  by_cases h : (n == li) = true
  · rw [if_pos h, if_pos h, cutTo_find, List.length_reverse]
  · rw [if_neg h, if_neg h, List.length_reverse]
/-- names that let one in. -/
def Fine (l : List Bs) (n : Bs) : Prop := (blockB n = true → findR [112] wallB l = none) ∧ (n = li → findR li listB l = none)
theorem fine_stays {l : List Bs} {n : Bs} (h : Fine l n) : staysR l n = l := by
  unfold staysR
  have e : (if blockB n = true then (findR [112] wallB l).getD l else l) = l := by
    by_cases q : blockB n = true
    · rw [if_pos q, h.1 q]; rfl
    · rw [if_neg q]
  simp only [e]
  by_cases q : (n == li) = true
  · rw [if_pos q, h.2 (by simpa using q)]; rfl
  · rw [if_neg q]
theorem find_len (x : Bs) (q : Bs → Bool) (l : List Bs) : ((findR x q l).getD l).length ≤ l.length ∧ (findR x q l ≠ none → ((findR x q l).getD l).length < l.length) := by
  cases h : findR x q l with
  | none => exact ⟨Nat.le_refl _, fun q => absurd rfl q⟩
  | some r =>
    obtain ⟨m, e⟩ := findR_suf x q l r h
    have : r.length < l.length := by rw [e]; simp; omega
    exact ⟨Nat.le_of_lt this, fun _ => this⟩
theorem stays_fine {l : List Bs} {n : Bs} (h : l.length ≤ (staysR l n).length) : Fine l n := by
  have hl : ∀ l1 : List Bs, (if (n == li) = true then (findR li listB l1).getD l1 else l1).length ≤ l1.length := fun l1 => by
    split
    · exact (find_len ..).1
    · exact Nat.le_refl _
  have h1 : blockB n = true → findR [112] wallB l = none := fun q => Classical.byContradiction fun c => by
    have f := (find_len [112] wallB l).2 c
    unfold staysR at h
    simp only [q, if_true] at h
    have := hl ((findR [112] wallB l).getD l)
    omega
  refine ⟨h1, fun q => Classical.byContradiction fun c => ?_⟩
  have hb : blockB n = true := by rw [q]; decide
  have f := (find_len li listB l).2 c
  unfold staysR at h
  simp only [hb, if_true, h1 hb, Option.getD_none] at h
  rw [if_pos (by simpa using q)] at h
  omega
theorem findR_filter (x : Bs) (q p : Bs → Bool) (h1 : p x = true) (h2 : ∀ n, q n = true → p n = true) : ∀ l, findR x q l = none → findR x q (l.filter p) = none
  | [], _ => rfl
  | n :: r, h => by
    unfold findR at h
    by_cases e : n = x
    · rw [if_pos e] at h; cases h
    rw [if_neg e] at h
    by_cases e2 : q n = true
    · rw [List.filter_cons_of_pos (h2 n e2)]
      unfold findR
      rw [if_neg e, if_pos e2]
    · rw [if_neg e2] at h
      by_cases e3 : p n = true
      · rw [List.filter_cons_of_pos e3]
        unfold findR
        rw [if_neg e, if_neg e2]
        exact findR_filter x q p h1 h2 r h
      · rw [List.filter_cons_of_neg e3]
        exact findR_filter x q p h1 h2 r h
theorem list_ok (n : Bs) (h : listB n = true) : allowedB n = true := by
  unfold listB at h
  rcases Bool.or_eq_true_iff.1 h with q | q <;> · rw [eq_of_beq q]; decide
theorem wall_ok (n : Bs) (h : wallB n = true) : allowedB n = true := by
  unfold wallB at h
  rcases Bool.or_eq_true_iff.1 h with q | q
  · rcases Bool.or_eq_true_iff.1 q with q | q
    · exact list_ok n q
    · rw [eq_of_beq q]; decide
  · rw [eq_of_beq q]; decide
def thin (l : List Bs) : List Bs := l.filter allowedB
theorem fine_thin {l : List Bs} {n : Bs} (h : Fine l n) : Fine (thin l) n := ⟨fun q => findR_filter _ _ _ (by decide) wall_ok l (h.1 q), fun q => findR_filter _ _ _ (by decide) list_ok l (h.2 q)⟩
theorem stays_thin (l : List Bs) (n : Bs) (h : l.length ≤ stays l n) : (thin l).length ≤ stays (thin l) n := by
  have e : l = l.reverse.reverse := by simp
  have e2 : thin l = (thin l.reverse).reverse := by unfold thin; rw [List.filter_reverse, List.reverse_reverse]
  rw [e, stays_R, List.length_reverse] at h
  have hf := fine_thin (stays_fine (l := l.reverse) (n := n) (by simpa using h))
  rw [e2, stays_R, fine_stays hf, List.length_reverse]
  exact Nat.le_refl _
theorem hasAt_app (l : List At) (a : At) (n : Bs) : hasAt (l ++ [a]) n = (hasAt l n || a.n == n) := by simp [hasAt]
theorem checkAts_cons (seen : List At) (a : At) (r : List At) : checkAts isName seen (a :: r) = 0 ↔ isName a.n = true ∧ hasAt seen a.n = false ∧ checkAts isName (seen ++ [a]) r = 0 := by
  rw [checkAts]
  cases h1 : isName a.n with
  | false => simp
  | true =>
    cases h2 : hasAt seen a.n with
    | true => simp
    | false => simp
theorem cleanAt_one (base e : Bs) (a : At) : cleanAt base e a = [] ∨ ∃ v, cleanAt base e a = [⟨a.n, v⟩] := by
  unfold cleanAt
  split
  · exact .inl rfl
  · split
    · split
      · exact .inr ⟨_, rfl⟩
      · exact .inl rfl
    · exact .inr ⟨a.v, rfl⟩
theorem checkAts_clean (base e : Bs) : ∀ (l seen seen' : List At), (∀ n, hasAt seen' n = true → hasAt seen n = true) → checkAts isName seen l = 0 → checkAts isName seen' (l.flatMap (cleanAt base e)) = 0
  | [], _, _, _, _ => rfl
  | a :: r, seen, seen', hs, h => by
    obtain ⟨h1, h2, h3⟩ := (checkAts_cons ..).1 h
    rw [List.flatMap_cons]
    rcases cleanAt_one base e a with q | ⟨v, q⟩
    · rw [q, List.nil_append]
      exact checkAts_clean base e r (seen ++ [a]) seen' (fun n hn => by rw [hasAt_app, hs n hn]; rfl) h3
    · rw [q]
      show checkAts isName seen' (⟨a.n, v⟩ :: r.flatMap (cleanAt base e)) = 0
      refine (checkAts_cons ..).2 ⟨h1, ?_, ?_⟩
      · cases q2 : hasAt seen' a.n with
        | false => rfl
        | true => rw [hs _ q2] at h2; cases h2
      · refine checkAts_clean base e r (seen ++ [a]) _ (fun n hn => ?_) h3
        rw [hasAt_app] at hn ⊢
        rcases Bool.or_eq_true_iff.1 hn with q2 | q2
        · rw [hs n q2]; rfl
        · rw [show (a.n == n) = true from q2, Bool.or_true]
theorem thin_app (l : List Bs) (n : Bs) : thin (l ++ [n]) = if allowedB n = true then thin l ++ [n] else thin l := by
  unfold thin
  rw [List.filter_append]
  by_cases h : allowedB n = true
  · rw [if_pos h]; simp [h]
  · rw [if_neg h]; simp [h]
theorem cleanOn_check (base : Bs) : ∀ (f : Fo) (names : List Bs) (prev : Bool) (out : Fo), checkF f names prev = 0 → checkF out (thin names) false = 0 → checkF (cleanOn base out f) (thin names) false = 0 := by
  intro f
  induction f with
  | nil => intro _ _ out _ h; exact h
  | node n a t k r ihk ihr =>
    intro names prev out h ho
    obtain ⟨g1, g2, g3, g4⟩ := (checkF_node ..).1 h
    unfold cleanOn
    by_cases hn : n = []
    · rw [if_pos hn]
      subst hn
      obtain ⟨q1, q2, q3⟩ := (nodeE_text ..).1 g1
      subst q3
      exact ihr names _ _ g4 (snoc_check (thin names) [] a t nil ((nodeE_text ..).2 ⟨q1, q2, rfl⟩) rfl out false ho (fun _ q => by cases q.2))
    rw [if_neg hn]
    by_cases hg : goneB n = true
    · rw [if_pos hg]
      exact ihr names _ _ g4 ho
    rw [if_neg hg]
    simp only
    obtain ⟨e1, e2, e3, e4, e5⟩ := (nodeE_el _ _ hn _ _ _).1 g1
    have hk := ihk (names ++ [n]) false nil g3 rfl
    rw [thin_app] at hk
    by_cases hal : allowedB n = true
    · rw [if_neg (by simp [hal])]
      rw [if_pos hal] at hk
      by_cases hi : n = [105, 109, 103] ∧ hasAt (cleanAts base n a) [115, 114, 99] = false
      · rw [if_pos hi]
        exact ihr names _ _ g4 ho
      · rw [if_neg hi]
        refine ihr names _ _ g4 (snoc_check (thin names) n _ [] _ ((nodeE_el _ _ hn _ _ _).2 ⟨rfl, e2, fun q => by rw [e3 q]; rfl, checkAts_clean base n a [] [] (fun _ q => q) e4, stays_thin names n e5⟩) hk out false ho (fun _ q => hn q.1))
    · rw [if_pos (by simpa using hal)]
      rw [if_neg hal] at hk
      exact ihr names _ _ g4 (joins_check _ _ _ out ho hk)
theorem clean_check (base : Bs) (f : Fo) (h : checkF f [] false = 0) : checkF (clean base f) [] false = 0 := cleanOn_check base f [] false nil h rfl
theorem clean_depth (base : Bs) (f : Fo) (D : Nat) (h : f.depth ≤ D) : (clean base f).depth ≤ D := (cleanOn_size base D f nil).2 (Nat.zero_le _) h
theorem clean_checkT (base : Bs) (f : Fo) (h : checkT f = 0) : checkT (clean base f) = 0 := by
  have hr := checkT_right f h
  unfold checkT at h
  by_cases q : 3000 < (sizeF 8 f).1 ∨ 8 < (sizeF 8 f).2
  · rw [if_pos q] at h; cases h
  · rw [if_neg q] at h
    have q1 : (sizeF 8 f).1 ≤ 3000 := Nat.not_lt.1 fun e => q (.inl e)
    have q2 : (sizeF 8 f).2 ≤ 8 := Nat.not_lt.1 fun e => q (.inr e)
    have d := size_from f 8 hr q2
    rw [size_to f 8 hr d] at q1
    have hc := clean_check base f h
    have hd := clean_depth base f 8 d
    have hn := (cleanOn_size base 8 f nil).1
    have hn' : (clean base f).count ≤ 3000 := by
      have : (nil : Fo).count = 0 := rfl
      unfold clean
      simp only at q1
      omega
    unfold checkT
    rw [size_to (clean base f) 8 (check_right _ _ _ hc) hd, if_neg (by simp only; omega)]
    exact hc
/-! What is clean stays so. -/
theorem light_light (base v : Bs) : light base (light base v) = light base v := by
  have q : ∀ x, light base x = if 3000 < base.length ∨ 3000 < x.length ∨ Mg.schOf base = 0 then x else match Mg.res base x with | none => x | some t => t := fun _ => rfl
  by_cases h : 3000 < base.length ∨ 3000 < v.length ∨ Mg.schOf base = 0
  · have e : light base v = v := by rw [q, if_pos h]
    rw [e, e]
  · cases h2 : Mg.res base v with
    | none =>
      have e : light base v = v := by rw [q, if_neg h, h2]
      rw [e, e]
    | some t =>
      have e : light base v = t := by rw [q, if_neg h, h2]
      rw [e, q]
      split
      · rfl
      · rw [(Mg.res_again base v t h2).2]
theorem light_nil (v : Bs) : light [] v = v := by
  unfold light
  rw [if_pos (.inr (.inr (by decide)))]
theorem cleanAts_again (b base e : Bs) (h : ∀ v, light b (light base v) = light base v) : ∀ l : List At, cleanAts b e (cleanAts base e l) = cleanAts base e l
  | [] => rfl
  | a :: r => by
    have ih := cleanAts_again b base e h r
    have e1 : ∀ x, cleanAts x e (a :: r) = cleanAt x e a ++ cleanAts x e r := fun _ => List.flatMap_cons ..
    have e2 : cleanAts b e (cleanAt base e a) = cleanAt base e a := by
      unfold cleanAt
      split
      · rfl
      · rename_i hm
        split
        · rename_i hl
          split
          · rename_i hg
            show cleanAt b e ⟨a.n, light base a.v⟩ ++ [] = _
            unfold cleanAt
            rw [if_neg hm, if_pos hl]
            simp only [h]
            rw [if_pos hg]
            rfl
          · rfl
        · rename_i hl
          show cleanAt b e a ++ [] = _
          unfold cleanAt
          rw [if_neg hm, if_neg hl]
          rfl
    have e3 : ∀ x y : List At, cleanAts b e (x ++ y) = cleanAts b e x ++ cleanAts b e y := fun x y => List.flatMap_append ..
    rw [e1, e3, e2, ih]
/-- what a base leaves as it is. -/
def Stable (base : Bs) : Fo → Prop
  | nil => True
  | node n a t k r => (n ≠ [] → goneB n = false ∧ allowedB n = true ∧ t = [] ∧ cleanAts base n a = a ∧ ¬(n = [105, 109, 103] ∧ hasAt a [115, 114, 99] = false)) ∧ Stable base k ∧ Stable base r
theorem snoc_stable (b n : Bs) (a : List At) (t : Bs) (k : Fo) (h : n ≠ [] → goneB n = false ∧ allowedB n = true ∧ t = [] ∧ cleanAts b n a = a ∧ ¬(n = [105, 109, 103] ∧ hasAt a [115, 114, 99] = false)) (hk : Stable b k) : ∀ f, Stable b f → Stable b (snoc n a t k f)
  | nil, _ => ⟨h, hk, trivial⟩
  | node n' a' t' k' nil, hf => by
    obtain ⟨g1, g2, g3⟩ := hf
    unfold snoc
    split
    · rename_i e
      exact ⟨fun q => absurd e.2 q, g2, trivial⟩
    · exact ⟨g1, g2, h, hk, trivial⟩
  | node n' a' t' k' (node m c u j r), hf => by
    obtain ⟨g1, g2, g3⟩ := hf
    exact ⟨g1, g2, snoc_stable b n a t k h hk (node m c u j r) g3⟩
theorem joins_stable (b : Bs) : ∀ g f, Stable b f → Stable b g → Stable b (joins f g) := by
  intro g
  induction g with
  | nil => intro f h _; exact h
  | node n a t k r _ ih =>
    intro f h1 h2
    obtain ⟨g1, g2, g3⟩ := h2
    exact ih _ (snoc_stable b n a t k g1 g2 f h1) g3
theorem cleanOn_stable (b base : Bs) (h : ∀ v, light b (light base v) = light base v) : ∀ (f out : Fo), right f → Stable b out → Stable b (cleanOn base out f) := by
  intro f
  induction f with
  | nil => intro out _ ho; exact ho
  | node n a t k r ihk ihr =>
    intro out hf ho
    obtain ⟨g1, g2, g3, g4, g5⟩ := hf
    have hk := ihk nil g4 trivial
    unfold cleanOn
    by_cases hn : n = []
    · rw [if_pos hn]
      rw [g1 hn]
      exact ihr _ g5 (snoc_stable b n a t nil (fun q => absurd hn q) trivial out ho)
    rw [if_neg hn]
    by_cases hg : goneB n = true
    · rw [if_pos hg]
      exact ihr _ g5 ho
    rw [if_neg hg]
    simp only
    by_cases hal : allowedB n = true
    · rw [if_neg (by simp [hal])]
      by_cases hi : n = [105, 109, 103] ∧ hasAt (cleanAts base n a) [115, 114, 99] = false
      · rw [if_pos hi]
        exact ihr _ g5 ho
      · rw [if_neg hi]
        exact ihr _ g5 (snoc_stable b n _ [] _ (fun _ => ⟨by simpa using hg, hal, rfl, cleanAts_again b base n h a, hi⟩) hk out ho)
    · rw [if_pos (by simpa using hal)]
      exact ihr _ g5 (joins_stable b _ out ho hk)
theorem stable_same (b : Bs) : ∀ (f : Fo) (names : List Bs) (out : Fo), Stable b f → right f → checkF f names (endsT out) = 0 → cleanOn b out f = out.app f := by
  intro f
  induction f with
  | nil => intro _ out _ _ _; exact (app_nil out).symm
  | node n a t k r ihk ihr =>
    intro names out hs hf hc
    obtain ⟨g1, g2, g3⟩ := hs
    obtain ⟨r1, r2, r3, r4, r5⟩ := hf
    obtain ⟨c1, c2, c3, c4⟩ := (checkF_node ..).1 hc
    have hsn : snoc n a t k out = out.app (node n a t k nil) := snoc_app n a t k out c2
    have hend : cleanOn b (snoc n a t k out) r = out.app (node n a t k r) := by
      rw [hsn, ihr names _ g3 r5 (by rw [ends_app]; exact c4), app_assoc]
      rfl
    unfold cleanOn
    by_cases hn : n = []
    · rw [if_pos hn]
      exact hend
    · rw [if_neg hn]
      obtain ⟨q1, q2, q3, q4, q5⟩ := g1 hn
      rw [if_neg (by simp [q1])]
      have hk : cleanOn b nil k = k := ihk (names ++ [n]) nil g2 r4 c3
      simp only [hk, q4]
      rw [if_neg (by simp [q2]), if_neg q5]
      rw [q3] at hend
      rw [q3]
      exact hend
theorem clean_again (b base : Bs) (h : ∀ v, light b (light base v) = light base v) (f : Fo) (hf : checkF f [] false = 0) : clean b (clean base f) = clean base f := by
  have hc := clean_check base f hf
  exact stable_same b (clean base f) [] nil (cleanOn_stable b base h f nil (check_right _ _ _ hf) trivial) (check_right _ _ _ hc) hc
/-! What is clean is safe. -/
theorem bad_clean (base e : Bs) : ∀ l : List At, badAts e (cleanAts base e l) = false
  | [] => rfl
  | a :: r => by
    have ih := bad_clean base e r
    have e1 : cleanAts base e (a :: r) = cleanAt base e a ++ cleanAts base e r := List.flatMap_cons ..
    have e2 : badAts e (cleanAt base e a) = false := by
      unfold cleanAt
      split
      · rfl
      · rename_i hm
        have hm' : mayB e a.n = true := by simpa using hm
        split
        · rename_i hl
          split
          · rename_i hg
            simp [badAts, hm', hl, hg]
          · rfl
        · rename_i hl
          have hl' : linkB a.n = false := by simpa using hl
          simp [badAts, hm', hl']
    rw [e1]
    unfold badAts at e2 ih ⊢
    rw [List.any_append, e2, ih]
    rfl
theorem stable_safe (b : Bs) : ∀ f, Stable b f → safeF f = true
  | nil, _ => rfl
  | node n a t k r, h => by
    obtain ⟨g1, g2, g3⟩ := h
    have hk := stable_safe b k g2
    have hr := stable_safe b r g3
    unfold safeF
    rw [hk, hr]
    by_cases hn : n = []
    · simp [hn]
    · obtain ⟨q1, q2, q3, q4, q5⟩ := g1 hn
      have hb := bad_clean b n a
      rw [q4] at hb
      have h5 : (decide (n = [105, 109, 103]) && !hasAt a [115, 114, 99]) = false := by
        by_cases e : n = [105, 109, 103]
        · cases e2 : hasAt a [115, 114, 99] with
          | true => simp
          | false => exact absurd ⟨e, e2⟩ q5
        · simp [e]
      rw [q2, hb, h5]
      simp
theorem clean_safe (base : Bs) (f : Fo) (hf : right f) : safeF (clean base f) = true := stable_safe base _ (cleanOn_stable base base (light_light base) f nil hf trivial)
end Mk

/- The plain law of the builder: what is built is right; a right tree built of its own tokens is the same. No program in sight. -/
namespace Mk
open Fo
namespace Bld
def R (root : Fo) (ops : List Op) : Bld := ⟨root, ops.reverse⟩
def rs (root : Fo) (ops : List Op) (g : Fo) : Fo := match ops with | [] => g | _ :: _ => root
def os (ops : List Op) (g : Fo) : List Op := match ops with | [] => [] | o :: r => { o with kids := g } :: r
def cur (root : Fo) (ops : List Op) : Fo := match ops with | [] => root | o :: _ => o.kids
def nmOf (ops : List Op) : List Bs := (ops.map (·.name)).reverse
theorem cur_set (root : Fo) (ops : List Op) (g : Fo) : cur (rs root ops g) (os ops g) = g := by cases ops <;> rfl
theorem nm_set (ops : List Op) (g : Fo) : nmOf (os ops g) = nmOf ops := by cases ops <;> rfl
theorem len_set (ops : List Op) (g : Fo) : (os ops g).length = ops.length := by cases ops <;> rfl
theorem rs_set (root : Fo) (ops : List Op) (g h : Fo) : rs (rs root ops g) (os ops g) h = rs root ops h := by cases ops <;> rfl
theorem os_set (ops : List Op) (g h : Fo) : os (os ops g) h = os ops h := by cases ops <;> rfl
theorem putIn_R (root : Fo) (ops : List Op) (n : Bs) (a : List At) (t : Bs) (k : Fo) : (R root ops).putIn n a t k = R (rs root ops (snoc n a t k (cur root ops))) (os ops (snoc n a t k (cur root ops))) := by
  cases ops with
  | nil => rfl
  | cons o r => simp [putIn, R, rs, os, cur]
theorem pop_R (root : Fo) (o : Op) (r : List Op) : (R root (o :: r)).pop = (R root r).putIn o.name o.ats [] o.kids := by simp [pop, R]
theorem names_R (root : Fo) (ops : List Op) : (R root ops).names = nmOf ops := by simp [names, R, nmOf]
theorem open_R (root : Fo) (ops : List Op) : (R root ops).open_.length = ops.length := by simp [R]
theorem nm_len (ops : List Op) : (nmOf ops).length = ops.length := by simp [nmOf]
theorem nm_cons (o : Op) (r : List Op) : nmOf (o :: r) = nmOf r ++ [o.name] := by simp [nmOf]
theorem push_R (root : Fo) (ops : List Op) (o : Op) : ({ R root ops with open_ := (R root ops).open_ ++ [o] } : Bld) = R root (o :: ops) := by simp [R]
/-- a right tree, told by its tokens, stands behind what is there. -/
theorem fold_flat : ∀ (f root : Fo) (ops : List Op), checkF f (nmOf ops) (endsT (cur root ops)) = 0 → ops.length + f.depth ≤ 8 → (flat f).foldl token (R root ops) = R (rs root ops ((cur root ops).app f)) (os ops ((cur root ops).app f)) := by
  intro f
  induction f with
  | nil =>
    intro root ops _ _
    rw [Fo.app_nil]
    cases ops <;> rfl
  | node n a t k r ihk ihr =>
    intro root ops hc hd
    obtain ⟨c1, c2, c3, c4⟩ := (checkF_node ..).1 hc
    have hsn : snoc n a t k (cur root ops) = (cur root ops).app (node n a t k nil) := snoc_app n a t k _ c2
    have hd2 := node_depth (D := 8 - ops.length) (n := n) (a := a) (t := t) (k := k) (r := r) (by omega)
    obtain ⟨d1, d2⟩ := hd2
    have hd3 : n ≠ [] → ops.length < 8 := fun q => by have := d1 q; omega
    have hrest : (flat r).foldl token ((R root ops).putIn n a t k) = R (rs root ops ((cur root ops).app (node n a t k r))) (os ops ((cur root ops).app (node n a t k r))) := by
      rw [putIn_R, hsn]
      have h := ihr (rs root ops ((cur root ops).app (node n a t k nil))) (os ops ((cur root ops).app (node n a t k nil)))
      rw [cur_set, nm_set, len_set, rs_set, os_set, ends_app, Fo.app_assoc] at h
      refine h c4 ?_
      by_cases hn : n = []
      · simp only [Fo.depth, hn, if_true] at hd
        exact hd
      · have := hd3 hn
        omega
    by_cases hn : n = []
    · subst hn
      obtain ⟨q1, q2, q3⟩ := (nodeE_text ..).1 c1
      subst q2
      subst q3
      exact hrest
    · obtain ⟨e1, e2, e3, e4, e5⟩ := (nodeE_el _ _ hn _ _ _).1 c1
      subst e1
      have hop := d1 hn
      have hs : stays (nmOf ops) n = ops.length := by
        have h1 : stays (nmOf ops) n ≤ (nmOf ops).length := by
          have := stays_R (ops.map (·.name)) n
          rw [show nmOf ops = (ops.map (·.name)).reverse from rfl, this, List.length_reverse]
          unfold staysR
          simp only
          have hl : ∀ l1 : List Bs, (if (n == li) = true then (findR li listB l1).getD l1 else l1).length ≤ l1.length := fun l1 => by
            split
            · exact (find_len ..).1
            · exact Nat.le_refl _
          refine Nat.le_trans (hl _) ?_
          split
          · exact (find_len ..).1
          · exact Nat.le_refl _
        rw [nm_len] at h1 e5
        exact Nat.le_antisymm h1 e5
      have hclose : (R root ops).close (stays (R root ops).names n) = R root ops := by
        unfold close
        rw [names_R, hs, open_R, Nat.sub_self]
        rfl
      have h8 : ¬ (R root ops).open_.length = 8 := by rw [open_R]; have := hd3 hn; omega
      have hopen : (R root ops).token ⟨2, n, a, []⟩ = if emptyB n = true then (R root ops).putIn n a [] nil else R root (⟨n, a, nil⟩ :: ops) := by
        unfold token
        rw [if_neg (by simp), if_pos (by simp)]
        simp only [hclose]
        rw [if_neg h8, push_R]
      have hflat : flat (node n a [] k r) = ⟨2, n, a, []⟩ :: ((if emptyB n = true then [] else flat k ++ [⟨3, n, [], []⟩]) ++ flat r) := by
        rw [flat, if_neg hn]
      rw [hflat, List.foldl_cons, hopen]
      by_cases he : emptyB n = true
      · rw [if_pos he, if_pos he, List.nil_append]
        rw [e3 he] at hrest ⊢
        exact hrest
      · rw [if_neg he, if_neg he, List.foldl_append, List.foldl_append]
        have hk := ihk root (⟨n, a, nil⟩ :: ops) (by rw [nm_cons]; exact c3) (by simp only [List.length_cons]; omega)
        have e6 : (nil : Fo).app k = k := rfl
        rw [hk]
        show (flat r).foldl token (([⟨3, n, [], []⟩] : List Tok).foldl token (R root (⟨n, a, (nil : Fo).app k⟩ :: ops))) = _
        rw [e6]
        have hcl : (([⟨3, n, [], []⟩] : List Tok).foldl token (R root (⟨n, a, k⟩ :: ops))) = (R root ops).putIn n a [] k := by
          show (R root (⟨n, a, k⟩ :: ops)).token ⟨3, n, [], []⟩ = _
          unfold token
          rw [if_neg (by simp), if_neg (by simp), if_pos (by simp)]
          have ha : above n (fun _ => false) (R root (⟨n, a, k⟩ :: ops)).names = some ops.length := by
            rw [names_R]
            unfold above nmOf
            rw [List.reverse_reverse, List.map_cons]
            unfold aboveR
            rw [if_pos rfl, List.length_map]
          simp only [ha]
          unfold close
          rw [open_R, List.length_cons, Nat.add_sub_cancel_left]
          exact pop_R root ⟨n, a, k⟩ ops
        rw [hcl]
        exact hrest
theorem build_flat (f : Fo) (hc : checkF f [] false = 0) (hd : f.depth ≤ 8) : build (flat f) = f := by
  unfold build
  have h := fold_flat f nil [] hc (by simpa using hd)
  have e : (⟨nil, []⟩ : Bld) = R nil [] := rfl
  rw [e, h]
  rfl
/-! What is built is right. -/
/-- elements that are open, the innermost first. -/
def OpsOk : List Op → Prop
  | [] => True
  | o :: r => (o.name ≠ [] ∧ emptyB o.name = false ∧ isName o.name = true ∧ checkAts isName [] o.ats = 0 ∧ Fine (r.map (·.name)) o.name) ∧ checkF o.kids (nmOf r ++ [o.name]) false = 0 ∧ r.length + 1 + o.kids.depth ≤ 8 ∧ OpsOk r
def BOk (root : Fo) (ops : List Op) : Prop := checkF root [] false = 0 ∧ root.depth ≤ 8 ∧ OpsOk ops
theorem fine_nm {ops : List Op} {n : Bs} (h : Fine (ops.map (·.name)) n) : (nmOf ops).length ≤ stays (nmOf ops) n := by
  unfold nmOf
  rw [stays_R, fine_stays h, List.length_reverse]
  exact Nat.le_refl _
theorem putIn_ok (root : Fo) (ops : List Op) (n : Bs) (a : List At) (t : Bs) (k : Fo) (h : BOk root ops) (hn : nodeE (nmOf ops) n a t k = 0) (hk : checkF k (nmOf ops ++ [n]) false = 0) (hd : n ≠ [] → ops.length + 1 + k.depth ≤ 8) :
    BOk (rs root ops (snoc n a t k (cur root ops))) (os ops (snoc n a t k (cur root ops))) := by
  obtain ⟨h1, h2, h3⟩ := h
  cases ops with
  | nil =>
    refine ⟨snoc_check [] n a t k hn hk root false h1 (fun _ q => by cases q.2), snoc_depth n a t k 8 (fun q => ?_) root h2, trivial⟩
    have := hd q
    simp at this
    omega
  | cons o r =>
    obtain ⟨q1, q2, q3, q4⟩ := h3
    rw [nm_cons] at hn hk
    refine ⟨h1, h2, q1, snoc_check _ n a t k hn hk o.kids false q2 (fun _ q => by cases q.2), ?_, q4⟩
    have := snoc_depth n a t k (8 - (r.length + 1)) (fun q => by have := hd q; simp only [List.length_cons] at this; omega) o.kids (by omega)
    show r.length + 1 + (snoc n a t k o.kids).depth ≤ 8
    omega
theorem pop_ok (root : Fo) (o : Op) (r : List Op) (h : BOk root (o :: r)) : BOk (rs root r (snoc o.name o.ats [] o.kids (cur root r))) (os r (snoc o.name o.ats [] o.kids (cur root r))) := by
  obtain ⟨h1, h2, ⟨q1, q2, q3, q4, q5⟩, p2, p3, p4⟩ := h
  refine putIn_ok root r o.name o.ats [] o.kids ⟨h1, h2, p4⟩ ((nodeE_el _ _ q1 _ _ _).2 ⟨rfl, q3, fun e => absurd e (by simp [q2]), q4, fine_nm q5⟩) p2 (fun _ => p3)
theorem closeN_ok : ∀ (m : Nat) (root : Fo) (ops : List Op), BOk root ops → m ≤ ops.length → ∃ root' ops', closeN m (R root ops) = R root' ops' ∧ BOk root' ops' ∧ ops'.map (·.name) = (ops.map (·.name)).drop m
  | 0, root, ops, h, _ => ⟨root, ops, rfl, h, rfl⟩
  | m + 1, root, [], h, hm => by simp at hm
  | m + 1, root, o :: r, h, hm => by
    obtain ⟨root', ops', e, h', q⟩ := closeN_ok m _ _ (pop_ok root o r h) (by rw [len_set]; simpa using hm)
    refine ⟨root', ops', ?_, h', ?_⟩
    · show closeN m (R root (o :: r)).pop = _
      rw [pop_R, putIn_R]
      exact e
    · rw [q]
      cases r <;> rfl
theorem find_fine (x : Bs) (q : Bs → Bool) : ∀ (ops : List Op) (r : List Bs), OpsOk ops → findR x q (ops.map (·.name)) = some r → Fine r x ∧ ∃ ops', OpsOk ops' ∧ ops'.map (·.name) = r
  | [], _, _, h => by cases h
  | o :: l, r, ho, h => by
    obtain ⟨q1, q2, q3, q4⟩ := ho
    rw [List.map_cons] at h
    unfold findR at h
    by_cases e : o.name = x
    · rw [if_pos e] at h
      injection h with h
      subst h
      rw [← e]
      exact ⟨q1.2.2.2.2, l, q4, rfl⟩
    · rw [if_neg e] at h
      by_cases e2 : q o.name = true
      · rw [if_pos e2] at h; cases h
      · rw [if_neg e2] at h
        exact find_fine x q l r q4 h
theorem stays_cut (ops : List Op) (n : Bs) (h : OpsOk ops) : Fine (staysR (ops.map (·.name)) n) n := by
  by_cases hb : blockB n = true
  · unfold staysR
    simp only [hb, if_true]
    have key : findR [112] wallB ((findR [112] wallB (ops.map (·.name))).getD (ops.map (·.name))) = none ∧ ∃ ops', OpsOk ops' ∧ ops'.map (·.name) = (findR [112] wallB (ops.map (·.name))).getD (ops.map (·.name)) := by
      cases hf : findR [112] wallB (ops.map (·.name)) with
      | none => exact ⟨hf, ops, h, rfl⟩
      | some r =>
        obtain ⟨f1, f2⟩ := find_fine _ _ ops r h hf
        exact ⟨f1.1 (by decide), f2⟩
    obtain ⟨k1, ops', k2, k3⟩ := key
    rw [← k3] at k1 ⊢
    by_cases hl : n = li
    · rw [if_pos (by simpa using hl)]
      cases hf : findR li listB (ops'.map (·.name)) with
      | none => exact ⟨fun _ => k1, fun _ => hf⟩
      | some r =>
        obtain ⟨f1, _⟩ := find_fine _ _ ops' r k2 hf
        rw [hl]
        exact f1
    · rw [if_neg (by simpa using hl)]
      exact ⟨fun _ => k1, fun q => absurd q hl⟩
  · exact ⟨fun q => absurd q hb, fun q => absurd (by rw [q]; decide) hb⟩
theorem staysR_drop (l : List Bs) (n : Bs) : staysR l n = l.drop (l.length - (staysR l n).length) := by
  have hd : ∀ (x : Bs) (q : Bs → Bool) (l : List Bs), ∃ m, l = m ++ (findR x q l).getD l := fun x q l => by
    cases h : findR x q l with
    | none => exact ⟨[], rfl⟩
    | some r =>
      obtain ⟨m, e⟩ := findR_suf x q l r h
      exact ⟨m ++ [x], by rw [e]; simp⟩
  have h1 : ∃ m, l = m ++ (if blockB n = true then (findR [112] wallB l).getD l else l) := by
    split
    · exact hd _ _ l
    · exact ⟨[], rfl⟩
  have h2 : ∃ m, l = m ++ staysR l n := by
    obtain ⟨m, e⟩ := h1
    unfold staysR
    simp only
    generalize (if blockB n = true then (findR [112] wallB l).getD l else l) = l1 at e ⊢
    split
    · obtain ⟨m2, e2⟩ := hd li listB l1
      exact ⟨m ++ m2, by rw [List.append_assoc, ← e2]; exact e⟩
    · exact ⟨m, e⟩
  obtain ⟨m, e⟩ := h2
  have : l.length - (staysR l n).length = m.length := by
    have := congrArg List.length e
    simp at this
    omega
  rw [this]
  conv => rhs; rw [e]
  simp
def TokOk (t : Tok) : Prop := (t.kind = 1 ∧ t.name = [] ∧ t.ats = [] ∧ t.text ≠ []) ∨ (t.kind = 2 ∧ isName t.name = true ∧ checkAts isName [] t.ats = 0 ∧ t.text = []) ∨ (t.kind = 3 ∧ isName t.name = true ∧ t.ats = [] ∧ t.text = [])
theorem name_ne {n : Bs} (h : isName n = true) : n ≠ [] := by
  rintro rfl
  exact absurd h (by decide)
theorem token_ok (root : Fo) (ops : List Op) (t : Tok) (h : BOk root ops) (hl : ops.length ≤ 8) (ht : TokOk t) : ∃ root' ops', (R root ops).token t = R root' ops' ∧ BOk root' ops' ∧ ops'.length ≤ 8 := by
  rcases ht with ⟨k, _, _, hx⟩ | ⟨k, hn, ha, _⟩ | ⟨k, hn, _, _⟩
  · unfold token
    rw [if_pos k, putIn_R]
    exact ⟨_, _, rfl, putIn_ok root ops [] [] t.text nil h ((nodeE_text ..).2 ⟨hx, rfl, rfl⟩) rfl (fun q => absurd rfl q), by rw [len_set]; exact hl⟩
  · unfold token
    rw [if_neg (by rw [k]; decide), if_pos k]
    have hne := name_ne hn
    have hsl : stays (nmOf ops) t.name = (staysR (ops.map (·.name)) t.name).length := stays_R _ _
    have hdrop := staysR_drop (ops.map (·.name)) t.name
    rw [List.length_map] at hdrop
    obtain ⟨root', ops', e, h', q⟩ := closeN_ok (ops.length - (staysR (ops.map (·.name)) t.name).length) root ops h (Nat.sub_le _ _)
    have hf := stays_cut ops t.name h.2.2
    rw [hdrop, ← q] at hf
    have hcl : (R root ops).close (stays (R root ops).names t.name) = R root' ops' := by
      unfold close
      rw [names_R, open_R, hsl]
      exact e
    simp only [hcl, open_R]
    have hl' : ops'.length ≤ 8 := by
      have := congrArg List.length q
      simp at this
      omega
    by_cases h8 : ops'.length = 8
    · rw [if_pos h8]
      exact ⟨root', ops', rfl, h', hl'⟩
    rw [if_neg h8]
    by_cases he : emptyB t.name = true
    · rw [if_pos he, putIn_R]
      refine ⟨_, _, rfl, putIn_ok root' ops' t.name t.ats [] nil h' ((nodeE_el _ _ hne _ _ _).2 ⟨rfl, hn, fun _ => rfl, ha, fine_nm hf⟩) rfl (fun _ => ?_), by rw [len_set]; exact hl'⟩
      have : (nil : Fo).depth = 0 := rfl
      omega
    · rw [if_neg he]
      have e2 := push_R root' ops' ⟨t.name, t.ats, nil⟩
      rw [e2]
      refine ⟨root', _, rfl, ⟨h'.1, h'.2.1, ⟨hne, by simpa using he, hn, ha, hf⟩, rfl, ?_, h'.2.2⟩, ?_⟩
      · have : (nil : Fo).depth = 0 := rfl
        show ops'.length + 1 + (nil : Fo).depth ≤ 8
        omega
      · simp only [List.length_cons]
        omega
  · unfold token
    rw [if_neg (by rw [k]; decide), if_neg (by rw [k]; decide), if_pos k]
    cases ha : above t.name (fun _ => false) (R root ops).names with
    | none => exact ⟨root, ops, rfl, h, hl⟩
    | some i =>
      simp only
      unfold close
      obtain ⟨root', ops', e, h', q⟩ := closeN_ok (ops.length - i) root ops h (Nat.sub_le _ _)
      rw [open_R]
      refine ⟨root', ops', e, h', ?_⟩
      have := congrArg List.length q
      simp at this
      omega
theorem fold_ok : ∀ (l : List Tok) (root : Fo) (ops : List Op), (∀ t ∈ l, TokOk t) → BOk root ops → ops.length ≤ 8 → ∃ root' ops', l.foldl token (R root ops) = R root' ops' ∧ BOk root' ops'
  | [], root, ops, _, h, _ => ⟨root, ops, rfl, h⟩
  | t :: l, root, ops, ht, h, hl => by
    obtain ⟨root', ops', e, h', hl'⟩ := token_ok root ops t h hl (ht t (by simp))
    rw [List.foldl_cons, e]
    exact fold_ok l root' ops' (fun x q => ht x (by simp [q])) h' hl'
theorem build_ok (l : List Tok) (h : ∀ t ∈ l, TokOk t) : checkF (build l) [] false = 0 ∧ (build l).depth ≤ 8 := by
  obtain ⟨root', ops', e, h'⟩ := fold_ok l nil [] h ⟨rfl, Nat.zero_le _, trivial⟩ (Nat.zero_le _)
  obtain ⟨root2, ops2, e2, h2, _⟩ := closeN_ok ops'.length root' ops' h' (Nat.le_refl _)
  have e3 : build l = root2 := by
    unfold build
    show ((l.foldl token (R nil [])).close 0).root = root2
    rw [e]
    unfold close
    rw [open_R, Nat.sub_zero, e2]
    rfl
  rw [e3]
  exact ⟨h2.1, h2.2.1⟩
end Bld
end Mk

/- The plain law of tokens: what is read is right; what is printed is read as it was. No program in sight. -/
namespace Mk
open Bld
/-! What is read is right. -/
theorem attrsN_ok : ∀ (n : Nat) (r : Bs) (out l : List At) (rest : Bs), checkAts isName [] out = 0 → attrsN n r out = some (l, rest) → checkAts isName [] l = 0
  | 0, _, _, _, _, _, h => by cases h
  | n + 1, r, out, l, rest, ho, h => by
    unfold attrsN at h
    split at h
    · cases h
    · split at h
      · injection h with h
        injection h with h1 h2
        rw [← h1]
        exact ho
      · simp only at h
        split at h
        · cases h
        · rename_i c t _ _ v r4 _
          refine attrsN_ok n r4 _ l rest ?_ h
          split
          · rename_i hq
            obtain ⟨q1, q2⟩ := Bool.and_eq_true_iff.1 hq
            have key : ∀ (m seen : List At) (a : At), checkAts isName seen m = 0 → isName a.n = true → hasAt (seen ++ m) a.n = false → checkAts isName seen (m ++ [a]) = 0 := by
              intro m
              induction m with
              | nil => intro seen a _ p1 p2; exact (checkAts_cons ..).2 ⟨p1, by simpa using p2, rfl⟩
              | cons b m ih =>
                intro seen a p0 p1 p2
                obtain ⟨b1, b2, b3⟩ := (checkAts_cons ..).1 p0
                exact (checkAts_cons ..).2 ⟨b1, b2, ih (seen ++ [b]) a b3 p1 (by rw [List.append_assoc]; exact p2)⟩
            exact key out [] _ ho q1 (by simpa using q2)
          · exact ho
theorem flush_ok (text : Bs) (out : List Tok) (h : ∀ t ∈ out, TokOk t) : ∀ t ∈ flush text out, TokOk t := by
  unfold flush
  simp only
  split
  · exact h
  · rename_i hn
    intro t ht
    rcases List.mem_append.1 ht with q | q
    · exact h t q
    · rw [List.mem_singleton.1 q]
      exact .inl ⟨rfl, rfl, rfl, hn⟩
theorem hereAt_ok (r : Bs) (t : Tok) (rest : Bs) (h : hereAt r = .tag t rest) : TokOk t := by
  unfold hereAt at h
  split at h
  · unfold openAt at h
    simp only at h
    split at h
    · cases h
    · rename_i l rest' ha
      split at h
      · rename_i hn
        injection h with h1 h2
        rw [← h1]
        exact .inr (.inl ⟨rfl, hn, attrsN_ok _ _ [] l rest' rfl ha, rfl⟩)
      · cases h
  · split at h
    · unfold closeAt at h
      simp only at h
      split at h
      · cases h
      · split at h
        · rename_i hn
          injection h with h1 h2
          rw [← h1]
          exact .inr (.inr ⟨rfl, hn, rfl, rfl⟩)
        · cases h
    · split at h
      · unfold passAt at h
        split at h <;> cases h
      · split at h
        · unfold passAt at h
          split at h <;> cases h
        · cases h
theorem toksN_ok : ∀ (n : Nat) (r text : Bs) (out : List Tok), (∀ t ∈ out, TokOk t) → ∀ t ∈ toksN n r text out, TokOk t
  | 0, r, text, out, h => by
    have e : toksN 0 r text out = flush text out := by unfold toksN; rfl
    rw [e]
    exact flush_ok text out h
  | n + 1, [], text, out, h => by
    have e : toksN (n + 1) [] text out = flush text out := by unfold toksN; rfl
    rw [e]
    exact flush_ok text out h
  | n + 1, c :: t, text, out, h => by
    unfold toksN
    split
    · split
      · exact toksN_ok n _ _ out h
      · exact flush_ok _ out h
      · exact toksN_ok n _ _ out h
      · rename_i k rest hk
        refine toksN_ok n _ _ _ (fun x q => ?_)
        rcases List.mem_append.1 q with q | q
        · exact flush_ok text out h x q
        · rw [List.mem_singleton.1 q]
          exact hereAt_ok _ k rest hk
    · exact toksN_ok n _ _ out h
theorem toks_ok (s : Bs) : ∀ t ∈ toks s, TokOk t := toksN_ok _ _ _ _ (fun _ q => by cases q)
/-! What is printed is read as it was. -/
theorem takeN_put : ∀ (t : Bs) (n : Nat), (put t).length ≤ n → takeN n (put t) = (t, true)
  | [], n, _ => by cases n <;> rfl
  | c :: t, n, h => by
    have e : put (c :: t) = esc c ++ put t := rfl
    rw [e, List.length_append] at h
    rw [e]
    by_cases h1 : c = 38
    · subst h1
      have e1 : esc 38 = [38, 97, 109, 112, 59] := rfl
      rw [e1] at h ⊢
      cases n with
      | zero => simp at h
      | succ n =>
        have ih := takeN_put t n (by simp at h; omega)
        have hs : sign ([38, 97, 109, 112, 59] ++ put t) = ([38], 5, true) := by simp [sign, named, Mg.pre]
        show takeN (n + 1) (38 :: ([97, 109, 112, 59] ++ put t)) = _
        rw [takeN, if_pos rfl]
        have hs' : sign (38 :: ([97, 109, 112, 59] ++ put t)) = ([38], 5, true) := hs
        simp only [hs']
        show ([38] ++ (takeN n (put t)).1, true && (takeN n (put t)).2) = _
        rw [ih]
        rfl
    by_cases h2 : c = 60
    · subst h2
      have e1 : esc 60 = [38, 108, 116, 59] := rfl
      rw [e1] at h ⊢
      cases n with
      | zero => simp at h
      | succ n =>
        have ih := takeN_put t n (by simp at h; omega)
        have hs : sign (38 :: ([108, 116, 59] ++ put t)) = ([60], 4, true) := by simp [sign, named, Mg.pre]
        show takeN (n + 1) (38 :: ([108, 116, 59] ++ put t)) = _
        rw [takeN, if_pos rfl]
        simp only [hs]
        show ([60] ++ (takeN n (put t)).1, true && (takeN n (put t)).2) = _
        rw [ih]
        rfl
    by_cases h3 : c = 62
    · subst h3
      have e1 : esc 62 = [38, 103, 116, 59] := rfl
      rw [e1] at h ⊢
      cases n with
      | zero => simp at h
      | succ n =>
        have ih := takeN_put t n (by simp at h; omega)
        have hs : sign (38 :: ([103, 116, 59] ++ put t)) = ([62], 4, true) := by simp [sign, named, Mg.pre]
        show takeN (n + 1) (38 :: ([103, 116, 59] ++ put t)) = _
        rw [takeN, if_pos rfl]
        simp only [hs]
        show ([62] ++ (takeN n (put t)).1, true && (takeN n (put t)).2) = _
        rw [ih]
        rfl
    by_cases h4 : c = 34
    · subst h4
      have e1 : esc 34 = [38, 113, 117, 111, 116, 59] := rfl
      rw [e1] at h ⊢
      cases n with
      | zero => simp at h
      | succ n =>
        have ih := takeN_put t n (by simp at h; omega)
        have hs : sign (38 :: ([113, 117, 111, 116, 59] ++ put t)) = ([34], 6, true) := by simp [sign, named, Mg.pre]
        show takeN (n + 1) (38 :: ([113, 117, 111, 116, 59] ++ put t)) = _
        rw [takeN, if_pos rfl]
        simp only [hs]
        show ([34] ++ (takeN n (put t)).1, true && (takeN n (put t)).2) = _
        rw [ih]
        rfl
    · have e1 : esc c = [c] := by unfold esc; rw [if_neg h1, if_neg h2, if_neg h3, if_neg h4]
      rw [e1] at h ⊢
      cases n with
      | zero => simp at h
      | succ n =>
        have ih := takeN_put t n (by simp at h; omega)
        show takeN (n + 1) (c :: put t) = _
        rw [takeN, if_neg h1]
        simp only [ih]
theorem take_put (t : Bs) : take (put t) = (t, true) := takeN_put t _ (Nat.le_refl _)
theorem put_mem (t : Bs) : ∀ x ∈ put t, x ≠ 34 ∧ x ≠ 60 := by
  intro x hx
  obtain ⟨c, _, hc⟩ := List.mem_flatMap.1 hx
  clear hx
  unfold esc at hc
  split at hc
  · revert x; decide
  · split at hc
    · revert x; decide
    · split at hc
      · revert x; decide
      · split at hc
        · revert x; decide
        · rename_i h1 h2 h3 h4
          rw [List.mem_singleton.1 hc]
          exact ⟨h4, h2⟩
def nameB (x : UInt8) : Bool := small x || Mg.isDig x || x == 45
set_option maxRecDepth 100000 in
theorem name_byte : ∀ x, nameB x = true → tagStop x = true ∧ atStop x = true ∧ Mg.low x = x ∧ (white x || x == 47) = false ∧ x ≠ 62 := Mg.all256 (fun x => nameB x = true → tagStop x = true ∧ atStop x = true ∧ Mg.low x = x ∧ (white x || x == 47) = false ∧ x ≠ 62) (by decide)
set_option maxRecDepth 100000 in
theorem small_let : ∀ x, small x = true → Mg.isLet x = true ∧ nameB x = true ∧ x ≠ 47 ∧ x ≠ 33 ∧ x ≠ 63 := Mg.all256 (fun x => small x = true → Mg.isLet x = true ∧ nameB x = true ∧ x ≠ 47 ∧ x ≠ 33 ∧ x ≠ 63) (by decide)
theorem nameAll_mem : ∀ (l : Bs) (b : Bool), nameAll b l = true → ∀ x ∈ l, nameB x = true
  | [], _, _, _, h => by cases h
  | c :: t, b, h, x, hx => by
    unfold nameAll at h
    obtain ⟨h1, h2⟩ := Bool.and_eq_true_iff.1 h
    rcases List.mem_cons.1 hx with q | q
    · rw [q]
      unfold nameB
      rcases Bool.or_eq_true_iff.1 h1 with p | p
      · rw [p]; rfl
      · rw [Bool.or_assoc, (Bool.and_eq_true_iff.1 p).2, Bool.or_true]
    · exact nameAll_mem t false h2 x q
theorem name_parts {n : Bs} (h : isName n = true) : ∃ c t, n = c :: t ∧ small c = true ∧ ∀ x ∈ n, nameB x = true := by
  unfold isName at h
  obtain ⟨h1, h2⟩ := Bool.and_eq_true_iff.1 h
  cases n with
  | nil => simp at h1
  | cons c t =>
    refine ⟨c, t, rfl, ?_, nameAll_mem _ _ h2⟩
    unfold nameAll at h2
    have := (Bool.and_eq_true_iff.1 h2).1
    simpa using this
theorem name_fold {n : Bs} (h : ∀ x ∈ n, nameB x = true) : Mg.fold n = n := by
  unfold Mg.fold
  rw [List.map_congr_left (fun x q => (name_byte x (h x q)).2.2.1), List.map_id']
theorem written_cons (a : At) (l : List At) : written (a :: l) = 32 :: (a.n ++ (61 :: 34 :: (put a.v ++ (34 :: written l)))) := by
  unfold written
  rw [List.flatMap_cons]
  simp
theorem attrsN_put : ∀ (l : List At) (n : Nat) (out : List At) (R : Bs), checkAts isName out l = 0 → l.length + 1 ≤ n → attrsN n (written l ++ 62 :: R) out = some (out ++ l, R)
  | [], n, out, R, _, hn => by
    cases n with
    | zero => omega
    | succ n =>
      show attrsN (n + 1) (62 :: R) out = _
      unfold attrsN
      have e : (62 :: R).dropWhile (fun c => white c || c == 47) = 62 :: R := List.dropWhile_cons_of_neg (by decide)
      rw [e]
      simp
  | a :: l, n, out, R, h, hn => by
    obtain ⟨h1, h2, h3⟩ := (checkAts_cons ..).1 h
    obtain ⟨c, t, hc, hs, hb⟩ := name_parts h1
    cases n with
    | zero => omega
    | succ n =>
      have ih := attrsN_put l n (out ++ [a]) R h3 (by simp at hn; omega)
      rw [written_cons, hc]
      have hbc := hb c (by rw [hc]; simp)
      have hbt : ∀ x ∈ t, nameB x = true := fun x q => hb x (by rw [hc]; simp [q])
      obtain ⟨y1, y2, y3, y4, y5⟩ := name_byte c hbc
      have e1 : ((32 :: (c :: t ++ (61 :: 34 :: (put a.v ++ (34 :: written l))))) ++ 62 :: R).dropWhile (fun c => white c || c == 47) = c :: (t ++ (61 :: 34 :: (put a.v ++ (34 :: (written l ++ 62 :: R))))) := by
        simp only [List.cons_append, List.append_assoc]
        rw [List.dropWhile_cons_of_pos (by decide), List.dropWhile_cons_of_neg (by simp [y4])]
      unfold attrsN
      rw [e1]
      simp only
      rw [if_neg y5]
      have e2 : (t ++ (61 :: 34 :: (put a.v ++ (34 :: (written l ++ 62 :: R))))).takeWhile atStop = t := by
        rw [List.takeWhile_append_of_pos (fun x q => (name_byte x (hbt x q)).2.1), List.takeWhile_cons_of_neg (by decide), List.append_nil]
      have e3 : (t ++ (61 :: 34 :: (put a.v ++ (34 :: (written l ++ 62 :: R))))).dropWhile atStop = 61 :: 34 :: (put a.v ++ (34 :: (written l ++ 62 :: R))) := by
        rw [List.dropWhile_append_of_pos (fun x q => (name_byte x (hbt x q)).2.1), List.dropWhile_cons_of_neg (by decide)]
      have e4 : (61 :: 34 :: (put a.v ++ (34 :: (written l ++ 62 :: R)))).dropWhile white = 61 :: 34 :: (put a.v ++ (34 :: (written l ++ 62 :: R))) := List.dropWhile_cons_of_neg (by decide)
      rw [e2, e3, e4]
      have e5 : Mg.fold (c :: t) = a.n := by rw [← hc]; exact name_fold hb
      have e6 : valueOf (34 :: (put a.v ++ (34 :: (written l ++ 62 :: R)))) = some (put a.v, written l ++ 62 :: R) := by
        unfold valueOf
        rw [List.dropWhile_cons_of_neg (by decide)]
        simp only
        rw [if_pos (.inl trivial)]
        have q1 : ∀ x ∈ put a.v, (x != 34) = true := fun x q => by simpa using (put_mem a.v x q).1
        rw [List.dropWhile_append_of_pos q1, List.takeWhile_append_of_pos q1, List.dropWhile_cons_of_neg (by decide), List.takeWhile_cons_of_neg (by decide), List.append_nil]
      have e7 : Mg.isAt 61 (61 :: 34 :: (put a.v ++ (34 :: (written l ++ 62 :: R)))) = true := by simp [Mg.isAt]
      rw [e5, e7, if_pos rfl, List.tail_cons, e6]
      simp only [Option.map_some, take_put]
      rw [if_pos (by rw [h1, h2]; rfl)]
      rw [ih, List.append_assoc]
      rfl
theorem written_len : ∀ l : List At, l.length ≤ (written l).length
  | [] => Nat.zero_le _
  | a :: l => by
    have := written_len l
    rw [written_cons]
    simp
    omega
theorem attrsOf_put (l : List At) (R : Bs) (h : checkAts isName [] l = 0) : attrsOf (written l ++ 62 :: R) = some (l, R) := by
  unfold attrsOf
  have := written_len l
  rw [attrsN_put l _ [] R h (by simp; omega), List.nil_append]
theorem written_first (l : List At) (R : Bs) : ∃ y r, written l ++ 62 :: R = y :: r ∧ tagStop y = false := by
  cases l with
  | nil => exact ⟨62, R, rfl, by decide⟩
  | cons a l => rw [written_cons]; exact ⟨32, _, rfl, by decide⟩
theorem here_open (n : Bs) (l : List At) (R : Bs) (hn : isName n = true) (hl : checkAts isName [] l = 0) : hereAt (60 :: (n ++ (written l ++ 62 :: R))) = .tag ⟨2, n, l, []⟩ R := by
  obtain ⟨c, t, hc, hs, hb⟩ := name_parts hn
  obtain ⟨y, r, hy, hyt⟩ := written_first l R
  have e0 : letAt (60 :: (n ++ (written l ++ 62 :: R))).tail = true := by rw [hc]; exact (small_let c hs).1
  unfold hereAt
  rw [if_pos e0, List.tail_cons]
  unfold openAt
  have p1 : ∀ x ∈ n, tagStop x = true := fun x q => (name_byte x (hb x q)).1
  have e1 : (n ++ (written l ++ 62 :: R)).takeWhile tagStop = n := by
    rw [hy, List.takeWhile_append_of_pos p1, List.takeWhile_cons_of_neg (by simp [hyt]), List.append_nil]
  have e2 : (n ++ (written l ++ 62 :: R)).dropWhile tagStop = written l ++ 62 :: R := by
    rw [List.dropWhile_append_of_pos p1, hy, List.dropWhile_cons_of_neg (by simp [hyt])]
  simp only [e1, e2, attrsOf_put l R hl, name_fold hb, hn, if_true]
theorem here_close (n : Bs) (R : Bs) (hn : isName n = true) : hereAt (60 :: 47 :: (n ++ 62 :: R)) = .tag ⟨3, n, [], []⟩ R := by
  obtain ⟨c, t, hc, hs, hb⟩ := name_parts hn
  have e0 : letAt (60 :: 47 :: (n ++ 62 :: R)).tail = false := by
    show Mg.isLet 47 = false
    decide
  have e9 : (Mg.pre [60, 47] (60 :: 47 :: (n ++ 62 :: R)) && letAt ((60 :: 47 :: (n ++ 62 :: R)).drop 2)) = true := by
    have : letAt (n ++ 62 :: R) = true := by rw [hc]; exact (small_let c hs).1
    show (Mg.pre [60, 47] (60 :: 47 :: (n ++ 62 :: R)) && letAt (n ++ 62 :: R)) = true
    rw [this]
    rfl
  unfold hereAt
  rw [if_neg (by rw [e0]; decide), if_pos e9]
  unfold closeAt
  have p1 : ∀ x ∈ n, tagStop x = true := fun x q => (name_byte x (hb x q)).1
  have e1 : (n ++ 62 :: R).takeWhile tagStop = n := by
    rw [List.takeWhile_append_of_pos p1, List.takeWhile_cons_of_neg (by decide), List.append_nil]
  have e2 : (n ++ 62 :: R).dropWhile tagStop = 62 :: R := by
    rw [List.dropWhile_append_of_pos p1, List.dropWhile_cons_of_neg (by decide)]
  have e3 : behind [62] (62 :: R) = some R := by unfold behind; simp [Mg.pre]
  have e4 : (60 :: 47 :: (n ++ 62 :: R)).drop 2 = n ++ 62 :: R := rfl
  simp only [e4, e1, e2, e3, name_fold hb, hn, if_true]
theorem toksN_text : ∀ (l : Bs) (n : Nat) (text : Bs) (out : List Tok) (R : Bs), (∀ x ∈ l, x ≠ 60) → l.length ≤ n → toksN n (l ++ R) text out = toksN (n - l.length) R (text ++ l) out
  | [], n, text, out, R, _, _ => by simp
  | c :: l, n, text, out, R, h, hn => by
    cases n with
    | zero => simp at hn
    | succ n =>
      show toksN (n + 1) (c :: (l ++ R)) text out = _
      rw [toksN, if_neg (h c (by simp)), toksN_text l n (text ++ [c]) out R (fun x q => h x (by simp [q])) (by simpa using hn)]
      simp
/-- texts don't stand side by side. -/
def Adj : Bool → List Tok → Prop
  | _, [] => True
  | p, t :: r => (t.kind = 1 → p = false) ∧ Adj (decide (t.kind = 1)) r
theorem Adj.weak : ∀ {l : List Tok}, Adj true l → ∀ p, Adj p l
  | [], _, _ => trivial
  | _ :: _, h, _ => ⟨fun q => (by cases h.1 q), h.2⟩
theorem flush_put (t : Bs) (out : List Tok) (h : t ≠ []) : flush (put t) out = out ++ [⟨1, [], [], t⟩] := by
  unfold flush
  simp only [take_put]
  rw [if_neg h]
theorem flush_nil (out : List Tok) : flush [] out = out := by
  have e : (take []).1 = [] := rfl
  unfold flush
  simp [e]
theorem read_list : ∀ (L : List Tok) (p : Bool) (text : Bs) (out : List Tok) (n : Nat), (∀ t ∈ L, TokOk t) → Adj p L → (p = false → text = []) → (bytes L).length ≤ n → toksN n (bytes L) text out = flush text out ++ L
  | [], p, text, out, n, _, _, _, _ => by
    have e : toksN n [] text out = flush text out := by cases n <;> (unfold toksN; rfl)
    show toksN n [] text out = _
    rw [e, List.append_nil]
  | t :: L, p, text, out, n, hL, ha, hp, hn => by
    have hb : bytes (t :: L) = tokBytes t ++ bytes L := rfl
    have ih := fun p' text' out' n' h1 h2 h3 => read_list L p' text' out' n' (fun x q => hL x (by simp [q])) h1 h2 h3
    obtain ⟨a1, a2⟩ := ha
    rw [hb, List.length_append] at hn
    rcases hL t (by simp) with ⟨k, k1, k2, k3⟩ | ⟨k, k1, k2, k3⟩ | ⟨k, k1, k2, k3⟩
    · have ht : t = ⟨1, [], [], t.text⟩ := by cases t; simp_all
      have e1 : tokBytes t = put t.text := by unfold tokBytes; rw [if_pos k]
      have htx := hp (a1 k)
      subst htx
      rw [e1] at hn
      rw [hb, e1, toksN_text _ _ _ _ _ (fun x q => (put_mem _ x q).2) (by omega), List.nil_append]
      rw [ih true (put t.text) out _ (by rw [show decide (t.kind = 1) = true by simpa using k] at a2; exact a2) (fun q => by cases q) (by omega), flush_put _ _ k3, flush_nil, List.append_assoc]
      rw [← ht]
      rfl
    · have ht : t = ⟨2, t.name, t.ats, []⟩ := by cases t; simp_all
      have e1 : tokBytes t = [60] ++ t.name ++ written t.ats ++ [62] := by unfold tokBytes; rw [if_neg (by rw [k]; decide), if_pos k]
      have e2 : tokBytes t ++ bytes L = 60 :: (t.name ++ (written t.ats ++ 62 :: bytes L)) := by rw [e1]; simp
      have e3 : (tokBytes t).length ≥ 1 := by rw [e1]; simp
      cases n with
      | zero => omega
      | succ n =>
        rw [hb, e2, toksN, if_pos rfl, here_open _ _ _ k1 k2]
        simp only
        rw [← ht, ih false [] _ n (by rw [show decide (t.kind = 1) = false by simp [k]] at a2; exact a2) (fun _ => rfl) (by omega), flush_nil, List.append_assoc]
        rfl
    · have ht : t = ⟨3, t.name, [], []⟩ := by cases t; simp_all
      have e1 : tokBytes t = [60, 47] ++ t.name ++ [62] := by unfold tokBytes; rw [if_neg (by rw [k]; decide), if_neg (by rw [k]; decide), if_pos k]
      have e2 : tokBytes t ++ bytes L = 60 :: 47 :: (t.name ++ 62 :: bytes L) := by rw [e1]; simp
      have e3 : (tokBytes t).length ≥ 1 := by rw [e1]; simp
      cases n with
      | zero => omega
      | succ n =>
        rw [hb, e2, toksN, if_pos rfl, here_close _ _ k1]
        simp only
        rw [← ht, ih false [] _ n (by rw [show decide (t.kind = 1) = false by simp [k]] at a2; exact a2) (fun _ => rfl) (by omega), flush_nil, List.append_assoc]
        rfl
theorem toks_bytes (L : List Tok) (h : ∀ t ∈ L, TokOk t) (ha : Adj false L) : toks (bytes L) = L := by
  unfold toks
  rw [read_list L false [] [] _ h ha (fun _ => rfl) (Nat.le_refl _), flush_nil, List.nil_append]
theorem flat_ok : ∀ (f : Fo) (names : List Bs) (prev : Bool), checkF f names prev = 0 → (∀ t ∈ flat f, TokOk t) ∧ ∀ m, Adj true m → Adj prev (flat f ++ m) := by
  intro f
  induction f with
  | nil => intro _ prev _; exact ⟨fun _ q => (by cases q), fun m h => h.weak prev⟩
  | node n a t k r ihk ihr =>
    intro names prev h
    obtain ⟨g1, g2, g3, g4⟩ := (checkF_node ..).1 h
    obtain ⟨r1, r2⟩ := ihr names _ g4
    by_cases hn : n = []
    · subst hn
      obtain ⟨q1, q2, q3⟩ := (nodeE_text ..).1 g1
      have e : flat (.node [] a t k r) = ⟨1, [], [], t⟩ :: flat r := by rw [flat, if_pos rfl]
      rw [e]
      refine ⟨fun x q => ?_, fun m hm => ?_⟩
      · rcases List.mem_cons.1 q with q | q
        · rw [q]; exact .inl ⟨rfl, rfl, rfl, q1⟩
        · exact r1 x q
      · exact ⟨fun _ => by cases prev with | false => rfl | true => exact absurd ⟨rfl, rfl⟩ g2, r2 m hm⟩
    · obtain ⟨e1, e2, e3, e4, e5⟩ := (nodeE_el _ _ hn _ _ _).1 g1
      obtain ⟨k1, k2⟩ := ihk _ false g3
      have e : flat (.node n a t k r) = ⟨2, n, a, []⟩ :: ((if emptyB n = true then [] else flat k ++ [⟨3, n, [], []⟩]) ++ flat r) := by rw [flat, if_neg hn]
      rw [show decide (n = []) = false by simp [hn]] at r2
      rw [e]
      refine ⟨fun x q => ?_, fun m hm => ?_⟩
      · rcases List.mem_cons.1 q with q | q
        · rw [q]; exact .inr (.inl ⟨rfl, e2, e4, rfl⟩)
        · rcases List.mem_append.1 q with q | q
          · split at q
            · cases q
            · rcases List.mem_append.1 q with q | q
              · exact k1 x q
              · rw [List.mem_singleton.1 q]; exact .inr (.inr ⟨rfl, e2, rfl, rfl⟩)
          · exact r1 x q
      · refine ⟨fun q => (by cases q), ?_⟩
        show Adj false (((if emptyB n = true then [] else flat k ++ [⟨3, n, [], []⟩]) ++ flat r) ++ m)
        split
        · exact r2 m hm
        · rw [List.append_assoc, List.append_assoc]
          exact k2 _ ⟨fun q => (by cases q), r2 m hm⟩
theorem read_flat (f : Fo) (hc : checkF f [] false = 0) : toks (bytes (flat f)) = flat f := by
  obtain ⟨h1, h2⟩ := flat_ok f [] false hc
  have := h2 [] trivial
  rw [List.append_nil] at this
  exact toks_bytes _ h1 this
/-- WHAT IS CLEAN STAYS SO. -/
theorem html_again (b base s : Bs) (h : ∀ v, light b (light base v) = light base v) : html b (html base s) = html base s := by
  obtain ⟨h1, h2⟩ := build_ok (toks s) (toks_ok s)
  have c1 := clean_check base _ h1
  have c2 := clean_depth base _ 8 h2
  unfold html
  rw [read_flat _ c1, build_flat _ c1 c2, clean_again b base h _ h1]
end Mk

/- Bounds: at a text of at most 3000 bytes all that cleaning makes is small. No program in sight. -/
namespace Mk
open Bld
theorem sign_len (s : Bs) : (sign s).1.length ≤ 4 := by
  unfold sign
  split
  · simp
  · split
    · simp
    · split
      · exact utf8_len _
      · simp
theorem takeN_len : ∀ (n : Nat) (s : Bs), (takeN n s).1.length ≤ 4 * s.length
  | 0, s => by unfold takeN; exact Nat.zero_le _
  | n + 1, [] => by unfold takeN; exact Nat.zero_le _
  | n + 1, c :: t => by
    unfold takeN
    split
    · have h1 := sign_len (c :: t)
      have h2 := takeN_len n ((c :: t).drop (max 1 (sign (c :: t)).2.1))
      rw [List.length_drop] at h2
      simp only [List.length_append]
      simp only [List.length_cons] at h2 ⊢
      omega
    · have h2 := takeN_len n t
      simp only [List.length_cons]
      omega
theorem take_len (s : Bs) : (take s).1.length ≤ 4 * s.length := takeN_len _ s
theorem tw_dw (p : UInt8 → Bool) (l : Bs) : (l.takeWhile p).length + (l.dropWhile p).length = l.length := by
  rw [← List.length_append, List.takeWhile_append_dropWhile]
theorem valueOf_len {r v r' : Bs} (h : valueOf r = some (v, r')) : v.length + r'.length ≤ r.length := by
  unfold valueOf at h
  split at h
  · injection h with h
    injection h with h1 h2
    rw [← h1, ← h2]
    exact Nat.zero_le _
  · rename_i q t heq
    have hl := tw_dw white r
    rw [heq, List.length_cons] at hl
    split at h
    · split at h
      · cases h
      · rename_i _ _ y u heq2
        injection h with h
        injection h with h1 h2
        have hl2 := tw_dw (fun x => x != q) t
        rw [heq2, List.length_cons] at hl2
        rw [← h1, ← h2]
        omega
    · injection h with h
      injection h with h1 h2
      have hl2 := tw_dw (fun c => !white c && c != 62) (q :: t)
      rw [h1, h2, List.length_cons] at hl2
      omega
theorem atB_app1 (l : List At) (a : At) : Fo.atB (l ++ [a]) = Fo.atB l + (1 + a.n.length + a.v.length) := by simp [Fo.atB]
theorem attrsN_bulk : ∀ (n : Nat) (r : Bs) (out l : List At) (rest : Bs), attrsN n r out = some (l, rest) → Fo.atB l + 8 * rest.length ≤ Fo.atB out + 8 * r.length
  | 0, _, _, _, _, h => by cases h
  | n + 1, r, out, l, rest, h => by
    unfold attrsN at h
    split at h
    · cases h
    · rename_i c t heq
      have hl := tw_dw (fun c => white c || c == 47) r
      rw [heq, List.length_cons] at hl
      split at h
      · injection h with h
        injection h with h1 h2
        rw [← h1, ← h2]
        omega
      · simp only at h
        split at h
        · cases h
        · rename_i v r4 hm
          have ih := attrsN_bulk n r4 _ l rest h
          have l2 := tw_dw atStop t
          have l3 := tw_dw white (t.dropWhile atStop)
          have lf : (Mg.fold (c :: t.takeWhile atStop)).length = (t.takeWhile atStop).length + 1 := by unfold Mg.fold; simp
          have lv : v.length + 4 * r4.length ≤ 4 * ((t.dropWhile atStop).dropWhile white).length := by
            generalize (t.dropWhile atStop).dropWhile white = r3 at hm
            split at hm
            · cases hv : valueOf r3.tail with
              | none => rw [hv] at hm; cases hm
              | some x =>
                rw [hv] at hm
                injection hm with hm
                injection hm with m1 m2
                obtain ⟨x1, x2⟩ := x
                have k1 := valueOf_len hv
                have k2 := take_len x1
                have k3 : r3.tail.length ≤ r3.length := by rw [List.length_tail]; omega
                simp only at m1 m2
                rw [← m1, ← m2]
                omega
            · injection hm with hm
              injection hm with m1 m2
              rw [← m1, ← m2]
              simp
          have ho : Fo.atB (if (isName (Mg.fold (c :: t.takeWhile atStop)) && !hasAt out (Mg.fold (c :: t.takeWhile atStop))) = true then out ++ [⟨Mg.fold (c :: t.takeWhile atStop), v⟩] else out) ≤ Fo.atB out + (1 + (Mg.fold (c :: t.takeWhile atStop)).length + v.length) := by
            split
            · rw [atB_app1]
              exact Nat.le_refl _
            · omega
          omega
theorem behind_len (p : Bs) : ∀ (r rest : Bs), behind p r = some rest → rest.length ≤ r.length
  | [], rest, h => by
    unfold behind at h
    split at h
    · injection h with h
      rw [← h]
      exact Nat.le_refl _
    · cases h
  | c :: t, rest, h => by
    unfold behind at h
    split at h
    · injection h with h
      rw [← h, List.length_drop]
      omega
    · have := behind_len p t rest h
      rw [List.length_cons]
      omega
theorem fold_len (l : Bs) : (Mg.fold l).length = l.length := by unfold Mg.fold; simp
theorem hereAt_bulk (c : UInt8) (tl : Bs) : (∀ rest, hereAt (c :: tl) = .gone rest → rest.length ≤ tl.length + 1) ∧ ∀ k rest, hereAt (c :: tl) = .tag k rest → 2 + k.name.length + k.text.length + Fo.atB k.ats + 8 * rest.length ≤ 8 * (tl.length + 1) := by
  have hp : ∀ p r, r.length ≤ tl.length + 1 → (∀ rest, passAt p r = .gone rest → rest.length ≤ tl.length + 1) ∧ ∀ k rest, passAt p r = .tag k rest → 2 + k.name.length + k.text.length + Fo.atB k.ats + 8 * rest.length ≤ 8 * (tl.length + 1) := by
    intro p r hr
    unfold passAt
    split
    · exact ⟨fun _ h => (by cases h), fun _ _ h => by cases h⟩
    · rename_i rest' hb
      refine ⟨fun rest h => ?_, fun _ _ h => by cases h⟩
      injection h with h
      have := behind_len p _ _ hb
      rw [← h]
      omega
  unfold hereAt
  split
  · unfold openAt
    rw [List.tail_cons]
    have hl := tw_dw tagStop tl
    have hf := fold_len (tl.takeWhile tagStop)
    simp only
    split
    · exact ⟨fun _ h => (by cases h), fun _ _ h => by cases h⟩
    · rename_i l rest' ha
      have hb := attrsN_bulk _ _ [] l rest' ha
      have e0 : Fo.atB [] = 0 := rfl
      split
      · refine ⟨fun _ h => (by cases h), fun k rest h => ?_⟩
        injection h with h1 h2
        rw [← h1, ← h2]
        simp only [List.length_nil]
        omega
      · refine ⟨fun rest h => ?_, fun _ _ h => by cases h⟩
        injection h with h
        rw [← h]
        omega
  · split
    · unfold closeAt
      have hl := tw_dw tagStop ((c :: tl).drop 2)
      have hd : ((c :: tl).drop 2).length ≤ tl.length := by rw [List.length_drop, List.length_cons]; omega
      have hf := fold_len (((c :: tl).drop 2).takeWhile tagStop)
      simp only
      split
      · exact ⟨fun _ h => (by cases h), fun _ _ h => by cases h⟩
      · rename_i rest' hb
        have hb2 := behind_len _ _ _ hb
        split
        · refine ⟨fun _ h => (by cases h), fun k rest h => ?_⟩
          injection h with h1 h2
          have e0 : Fo.atB [] = 0 := rfl
          rw [← h1, ← h2]
          simp only [List.length_nil]
          omega
        · refine ⟨fun rest h => ?_, fun _ _ h => by cases h⟩
          injection h with h
          rw [← h]
          omega
    · split
      · exact hp _ _ (by rw [List.length_drop, List.length_cons]; omega)
      · split
        · exact hp _ _ (by rw [List.length_cons]; omega)
        · exact ⟨fun _ h => (by cases h), fun _ _ h => by cases h⟩
theorem tokB_app (l m : List Tok) : tokB (l ++ m) = tokB l + tokB m := by simp [tokB]
theorem flush_bulk (text : Bs) (out : List Tok) : tokB (flush text out) ≤ tokB out + 8 * text.length := by
  have h := take_len text
  unfold flush
  simp only
  split
  · omega
  · rename_i hn
    have : (take text).1.length ≠ 0 := fun e => hn (List.eq_nil_of_length_eq_zero e)
    have e0 : Fo.atB [] = 0 := rfl
    have e1 : tokB [] = 0 := rfl
    rw [tokB_app, tokB_cons, e1]
    simp only [List.length_nil, e0]
    omega
theorem toksN_bulk : ∀ (n : Nat) (r text : Bs) (out : List Tok), tokB (toksN n r text out) ≤ tokB out + 8 * (text.length + r.length)
  | 0, r, text, out => by
    have e : toksN 0 r text out = flush text out := by unfold toksN; rfl
    have := flush_bulk text out
    rw [e]
    omega
  | n + 1, [], text, out => by
    have e : toksN (n + 1) [] text out = flush text out := by unfold toksN; rfl
    have := flush_bulk text out
    rw [e]
    omega
  | n + 1, c :: t, text, out => by
    unfold toksN
    rw [List.length_cons]
    split
    · obtain ⟨b1, b2⟩ := hereAt_bulk c t
      split
      · have := toksN_bulk n t (text ++ [60]) out
        rw [List.length_append, List.length_singleton] at this
        omega
      · have := flush_bulk (text ++ c :: t) out
        rw [List.length_append, List.length_cons] at this
        omega
      · rename_i rest hh
        have := toksN_bulk n rest text out
        have := b1 rest hh
        omega
      · rename_i k rest hh
        have h1 := toksN_bulk n rest [] (flush text out ++ [k])
        have h2 := b2 k rest hh
        have h3 := flush_bulk text out
        have e1 : tokB [] = 0 := rfl
        rw [tokB_app, tokB_cons, e1, List.length_nil] at h1
        omega
    · have := toksN_bulk n t (text ++ [c]) out
      rw [List.length_append, List.length_singleton] at this
      omega
theorem toks_bulk (s : Bs) : tokB (toks s) ≤ 8 * s.length := by
  have := toksN_bulk s.length s [] []
  have e1 : tokB [] = 0 := rfl
  rw [e1, List.length_nil] at this
  show tokB (toksN s.length s [] []) ≤ _
  omega
theorem fold_bulk : ∀ (l : List Tok) (b : Bld), Bld.bulk (l.foldl token b) ≤ Bld.bulk b + tokB l
  | [], b => by show Bld.bulk b ≤ _; omega
  | t :: l, b => by
    have h1 := fold_bulk l (b.token t)
    have h2 := token_bulk b t
    rw [List.foldl_cons, tokB_cons]
    omega
theorem build_bulk (l : List Tok) : (build l).bulk ≤ tokB l := by
  have h1 := fold_bulk l ⟨.nil, []⟩
  have h2 := close_bulk (l.foldl token ⟨.nil, []⟩) 0
  have h3 := close_zero (l.foldl token ⟨.nil, []⟩)
  have h4 := fos_zero _ h3
  have h5 : Bld.bulk ((l.foldl token ⟨.nil, []⟩).close 0) = (build l).bulk := by
    unfold Bld.bulk
    rw [h3, h4, foB_one]
    unfold build
    simp [opB]
  have h6 : Bld.bulk ⟨.nil, []⟩ = 0 := rfl
  omega
theorem put_len (t : Bs) : (put t).length ≤ 6 * t.length := by
  induction t with
  | nil => exact Nat.zero_le _
  | cons c t ih =>
    have h : (esc c).length ≤ 6 := by
      unfold esc
      repeat' split
      all_goals simp
    have e : put (c :: t) = esc c ++ put t := rfl
    rw [e, List.length_append, List.length_cons]
    omega
theorem written_bulk : ∀ l : List At, (written l).length ≤ 6 * Fo.atB l
  | [] => Nat.zero_le _
  | a :: l => by
    have h1 := written_bulk l
    have h2 := put_len a.v
    have e : Fo.atB (a :: l) = 1 + a.n.length + a.v.length + Fo.atB l := by simp [Fo.atB]
    rw [written_cons, e]
    simp only [List.length_cons, List.length_append]
    omega
theorem bytes_app (l m : List Tok) : bytes (l ++ m) = bytes l ++ bytes m := List.flatMap_append ..
theorem bytes_bulk : ∀ f : Fo, (bytes (flat f)).length ≤ 16 * f.bulk := by
  intro f
  induction f with
  | nil => exact Nat.zero_le _
  | node n a t k r ihk ihr =>
    have e : Fo.bulk (.node n a t k r) = 1 + n.length + t.length + Fo.atB a + Fo.bulk k + Fo.bulk r := rfl
    rw [e]
    by_cases hn : n = []
    · have e2 : flat (.node n a t k r) = [⟨1, [], [], t⟩] ++ flat r := by rw [flat, if_pos hn]; rfl
      have h1 := put_len t
      have e3 : bytes [(⟨1, [], [], t⟩ : Tok)] = put t := by
        show tokBytes ⟨1, [], [], t⟩ ++ [] = _
        rw [List.append_nil]
        rfl
      rw [e2, bytes_app, e3, List.length_append]
      omega
    · have e2 : flat (.node n a t k r) = [⟨2, n, a, []⟩] ++ ((if emptyB n = true then [] else flat k ++ [⟨3, n, [], []⟩]) ++ flat r) := by rw [flat, if_neg hn]; rfl
      have h1 := written_bulk a
      have e3 : (bytes [(⟨2, n, a, []⟩ : Tok)]).length = 2 + n.length + (written a).length := by
        show (([60] ++ n ++ written a ++ [62]) ++ []).length = _
        simp
        omega
      have e4 : (bytes [(⟨3, n, [], []⟩ : Tok)]).length = 3 + n.length := by
        show (([60, 47] ++ n ++ [62]) ++ []).length = _
        simp
        omega
      rw [e2, bytes_app, bytes_app, List.length_append, List.length_append, e3]
      split
      · have : (bytes []).length = 0 := rfl
        omega
      · rw [bytes_app, List.length_append, e4]
        omega
theorem flat_mem : ∀ (f : Fo) (t : Tok), t ∈ flat f → t.text.length ≤ f.bulk ∧ ∀ a ∈ t.ats, a.v.length ≤ f.bulk := by
  intro f
  induction f with
  | nil => intro t h; cases h
  | node n a t k r ihk ihr =>
    intro x h
    have e : Fo.bulk (.node n a t k r) = 1 + n.length + t.length + Fo.atB a + Fo.bulk k + Fo.bulk r := rfl
    rw [e]
    have hr : x ∈ flat r → x.text.length ≤ 1 + n.length + t.length + Fo.atB a + Fo.bulk k + Fo.bulk r ∧ ∀ b ∈ x.ats, b.v.length ≤ 1 + n.length + t.length + Fo.atB a + Fo.bulk k + Fo.bulk r := fun q => by
      obtain ⟨q1, q2⟩ := ihr x q
      exact ⟨by omega, fun b hb => by have := q2 b hb; omega⟩
    by_cases hn : n = []
    · rw [flat, if_pos hn] at h
      rcases List.mem_cons.1 h with q | q
      · rw [q]
        exact ⟨by simp only; omega, fun b hb => by cases hb⟩
      · exact hr q
    · rw [flat, if_neg hn] at h
      rcases List.mem_cons.1 h with q | q
      · rw [q]
        refine ⟨by simp only [List.length_nil]; omega, fun b hb => ?_⟩
        have h9 : 1 + b.n.length + b.v.length ≤ Fo.atB a := atB_mem hb
        omega
      · rcases List.mem_append.1 q with q | q
        · split at q
          · cases q
          · rcases List.mem_append.1 q with q | q
            · obtain ⟨q1, q2⟩ := ihk x q
              exact ⟨by omega, fun b hb => by have := q2 b hb; omega⟩
            · rw [List.mem_singleton.1 q]
              exact ⟨by simp only [List.length_nil]; omega, fun b hb => by cases hb⟩
        · exact hr q
theorem clean_bulk (base : Bs) (f : Fo) : (clean base f).bulk ≤ 3001 * f.bulk := by
  have := (cleanOn_bulk base f .nil).1
  have e : Fo.bulk .nil = 0 := rfl
  unfold clean
  omega
theorem fits (base s : Bs) (hs : s.length ≤ 3000) : Fits base s := by
  have h1 := toks_bulk s
  have h2 := build_bulk (toks s)
  have h3 := clean_bulk base (build (toks s))
  have h4 := bytes_bulk (clean base (build (toks s)))
  refine ⟨hs, by omega, by omega, by omega, ?_⟩
  show (bytes (flat (clean base (build (toks s))))).length ≤ _
  omega
end Mk

/- Contracts of the law's textIn and page. Condition: at most 33554432 nodes, attributes and letters. -/
namespace Mk
theorem textIn_bulk (g : Bool) : ∀ f : Fo, (textIn g f).length ≤ f.bulk
  | .nil => Nat.zero_le _
  | .node n a t k r => by
    have h1 := textIn_bulk g k
    have h2 := textIn_bulk g r
    have e : Fo.bulk (.node n a t k r) = 1 + n.length + t.length + Fo.atB a + Fo.bulk k + Fo.bulk r := rfl
    rw [e]
    unfold textIn
    split
    · omega
    · simp only [List.length_append]; omega
/-- the page of the law. -/
def page : Fo := .node [112] [] [] (.node [] [] [97] .nil (.node [98, 114] [] [] .nil .nil)) (.node [117, 108] [] [] (.node [108, 105] [] [] (.node [] [] [98] .nil .nil) (.node [108, 105] [] [] (.node [] [] [99] .nil .nil) .nil)) .nil)
end Mk
namespace Go.Proofs.YteidgdpaolieaaaGreatDoor
open Go.RowKit
theorem FoV.of_blk {w : World} {g cap : Nat} {K : Nat → Prop} {f : Mk.Fo} {cs : List Value} (hb : Blk w g 52 cs.toArray) (hK : K g) (hc : FCells w K f cs) (hl : f.len ≤ maxLen) : FoV w K (.slice (some ⟨g, 0, none⟩) f.len cap) f :=
  ⟨_, cap, cs, rfl, .inr ⟨g, 0, rfl, hK, fun i v q => by rw [Nat.zero_add]; exact (Blk.cell hb i).trans (by simpa using q)⟩, hc, hl⟩
def nodeCells (n t : List UInt8) (vk : Value) : List Value := [.string (st n), .slice none 0 0, .string (st t), vk]
theorem FCells.one {w : World} {K : Nat → Prop} {n t : List UInt8} {k r : Mk.Fo} {ao : Option Addr} {cap : Nat} {ys : List Value} (hk : FoV w K (.slice ao k.len cap) k) (hr : FCells w K r ys) : FCells w K (.node n [] t k r) (nodeCells n t (.slice ao k.len cap) ++ ys) := by
  obtain ⟨ao', cap', xs, h1, h2, h3, h4⟩ := hk
  injection h1 with e1 e2 e3
  subst e1
  exact ⟨.slice none 0 0, ao, cap, xs, ys, rfl, AtsV.nil _ _, h2, h4, h3, hr⟩
theorem FoV.nil0 (w : World) (K : Nat → Prop) : FoV w K (.slice none (Mk.Fo.nil).len 0) .nil := ⟨none, 0, [], rfl, .inl rfl, rfl, Nat.zero_le _⟩
theorem FCells.nil0 (w : World) (K : Nat → Prop) : FCells w K .nil [] := rfl
theorem page_mem {w : World} {s : Nat} {K : Nat → Prop} (hK : ∀ i, i < 5 → K (s + i))
    (h0 : Blk w s 52 (nodeCells [] [97] (.slice none 0 0) ++ (nodeCells [98, 114] [] (.slice none 0 0) ++ [])).toArray)
    (h1 : Blk w (s + 1) 52 (nodeCells [] [98] (.slice none 0 0) ++ []).toArray)
    (h2 : Blk w (s + 2) 52 (nodeCells [] [99] (.slice none 0 0) ++ []).toArray)
    (h3 : Blk w (s + 3) 52 (nodeCells [108, 105] [] (.slice (some ⟨s + 1, 0, none⟩) 1 1) ++ (nodeCells [108, 105] [] (.slice (some ⟨s + 2, 0, none⟩) 1 1) ++ [])).toArray)
    (h4 : Blk w (s + 4) 52 (nodeCells [112] [] (.slice (some ⟨s, 0, none⟩) 2 2) ++ (nodeCells [117, 108] [] (.slice (some ⟨s + 3, 0, none⟩) 2 2) ++ [])).toArray) :
    FoV w K (.slice (some ⟨s + 4, 0, none⟩) 2 2) Mk.page := by
  have m1 : 1 ≤ maxLen := by decide
  have m2 : 2 ≤ maxLen := by decide
  have f0 : FoV w K (.slice (some ⟨s, 0, none⟩) 2 2) (.node [] [] [97] .nil (.node [98, 114] [] [] .nil .nil)) := FoV.of_blk h0 (hK 0 (by decide)) (FCells.one (k := .nil) (FoV.nil0 w K) (FCells.one (k := .nil) (FoV.nil0 w K) (FCells.nil0 w K))) m2
  have f1 : FoV w K (.slice (some ⟨s + 1, 0, none⟩) 1 1) (.node [] [] [98] .nil .nil) := FoV.of_blk h1 (hK 1 (by decide)) (FCells.one (k := .nil) (FoV.nil0 w K) (FCells.nil0 w K)) m1
  have f2 : FoV w K (.slice (some ⟨s + 2, 0, none⟩) 1 1) (.node [] [] [99] .nil .nil) := FoV.of_blk h2 (hK 2 (by decide)) (FCells.one (k := .nil) (FoV.nil0 w K) (FCells.nil0 w K)) m1
  have f3 : FoV w K (.slice (some ⟨s + 3, 0, none⟩) 2 2) (.node [108, 105] [] [] (.node [] [] [98] .nil .nil) (.node [108, 105] [] [] (.node [] [] [99] .nil .nil) .nil)) := FoV.of_blk h3 (hK 3 (by decide)) (FCells.one (k := .node [] [] [98] .nil .nil) f1 (FCells.one (k := .node [] [] [99] .nil .nil) f2 (FCells.nil0 w K))) m2
  exact FoV.of_blk h4 (hK 4 (by decide)) (FCells.one (k := .node [] [] [97] .nil (.node [98, 114] [] [] .nil .nil)) f0 (FCells.one (k := .node [108, 105] [] [] (.node [] [] [98] .nil .nil) (.node [108, 105] [] [] (.node [] [] [99] .nil .nil) .nil)) f3 (FCells.nil0 w K))) m2
set_option maxHeartbeats 2000000 in
set_option maxRecDepth 100000 in
theorem lw_page (w : World) :
    Calls Tryz.prog 41 #[] w fun e w' => ∃ v, e = .returned v ∧ FoV w' (fun b => w.heap.size ≤ b ∧ b < w'.heap.size) v Mk.page ∧ Below w.heap.size w w' := by
  go_enter Tryz.func41, Tryz.ntmps41
  go_wp2_with fail
  go_ret
  refine ⟨_, rfl, ?_, ?_⟩
  · have b0 := Blk.new w 52 (nodeCells [] [97] (.slice none 0 0) ++ (nodeCells [98, 114] [] (.slice none 0 0) ++ [])).toArray
    have b1 := Blk.new (w.alloc (.cells (nodeCells [] [97] (.slice none 0 0) ++ (nodeCells [98, 114] [] (.slice none 0 0) ++ [])).toArray 52)) 52 (nodeCells [] [98] (.slice none 0 0) ++ []).toArray
    have b2 := Blk.new ((w.alloc (.cells (nodeCells [] [97] (.slice none 0 0) ++ (nodeCells [98, 114] [] (.slice none 0 0) ++ [])).toArray 52)).alloc (.cells (nodeCells [] [98] (.slice none 0 0) ++ []).toArray 52)) 52 (nodeCells [] [99] (.slice none 0 0) ++ []).toArray
    have b3 := Blk.new (((w.alloc (.cells (nodeCells [] [97] (.slice none 0 0) ++ (nodeCells [98, 114] [] (.slice none 0 0) ++ [])).toArray 52)).alloc (.cells (nodeCells [] [98] (.slice none 0 0) ++ []).toArray 52)).alloc (.cells (nodeCells [] [99] (.slice none 0 0) ++ []).toArray 52)) 52 (nodeCells [108, 105] [] (.slice (some ⟨w.heap.size + 1, 0, none⟩) 1 1) ++ (nodeCells [108, 105] [] (.slice (some ⟨w.heap.size + 2, 0, none⟩) 1 1) ++ [])).toArray
    have b4 := Blk.new ((((w.alloc (.cells (nodeCells [] [97] (.slice none 0 0) ++ (nodeCells [98, 114] [] (.slice none 0 0) ++ [])).toArray 52)).alloc (.cells (nodeCells [] [98] (.slice none 0 0) ++ []).toArray 52)).alloc (.cells (nodeCells [] [99] (.slice none 0 0) ++ []).toArray 52)).alloc (.cells (nodeCells [108, 105] [] (.slice (some ⟨w.heap.size + 1, 0, none⟩) 1 1) ++ (nodeCells [108, 105] [] (.slice (some ⟨w.heap.size + 2, 0, none⟩) 1 1) ++ [])).toArray 52)) 52 (nodeCells [112] [] (.slice (some ⟨w.heap.size, 0, none⟩) 2 2) ++ (nodeCells [117, 108] [] (.slice (some ⟨w.heap.size + 3, 0, none⟩) 2 2) ++ [])).toArray
    simp only [World.size_alloc] at b1 b2 b3 b4
    exact page_mem (fun i hi => ⟨by omega, by simp only [World.size_alloc]; omega⟩) (Blk.alloc (Blk.alloc (Blk.alloc (Blk.alloc b0 _) _) _) _) (Blk.alloc (Blk.alloc (Blk.alloc b1 _) _) _) (Blk.alloc (Blk.alloc b2 _) _) (Blk.alloc b3 _) b4
  · exact (((((Below.refl _ w).alloc (Nat.le_refl _) _).alloc (by simp) _).alloc (by simp; omega) _).alloc (by simp; omega) _).alloc (by simp; omega) _
def TextC (f : Mk.Fo) : Prop := ∀ (g : Bool) (v : Value) (K : Nat → Prop) (w : World), FoV w K v f → (∀ b, K b → b < w.heap.size) → Calls Tryz.prog 17 #[v, .bool g] w fun e w' => e = .returned (.string (st (Mk.textIn g f))) ∧ Below w.heap.size w w'
theorem textIn_node (g : Bool) (n : List UInt8) (a : List Mk.At) (t : List UInt8) (k r : Mk.Fo) : Mk.textIn g (.node n a t k r) = if g && Mk.goneB n then Mk.textIn g r else t ++ Mk.textIn g k ++ Mk.textIn g r := rfl
set_option maxHeartbeats 8000000 in
set_option maxRecDepth 100000 in
theorem lw_textIn (N : Nat) : ∀ f : Mk.Fo, f.bulk < N → f.bulk ≤ 549755813888 → TextC f := by
  induction N with
  | zero => intro f hN; omega
  | succ N ih =>
    intro f hN hb g v K w hv hK
    have hst : ∀ l : List UInt8, (st l).toList = l := fun l => Lib.toList_data _
    have hgl := Mk.Fo.len_bulk f
    have htl := Mk.textIn_bulk g f
    obtain ⟨gm, o, cap, hv1, hlen, hat⟩ := hv.at_
    have HAT := Lib.hid hat
    clear hat hv
    rcases hv1 with ⟨hv1, hKg⟩ | ⟨ao, hv1, hnil⟩
    · subst hv1
      have hgm := hK gm hKg
      go_enter Tryz.func17, Tryz.ntmps17
      go_wp2_with fail
      go_loopw [5, 6] (fun s i wr => ∃ (k : Nat) (pre : List UInt8), k ≤ f.len ∧ s = .string (st pre) ∧ i = .int .i64 k ∧ Hid (pre ++ Mk.textIn g (f.drop k) = Mk.textIn g f) ∧ Hid (Below w.heap.size w wr)) (fun _ i _ => f.len - (intOf i).toNat)
      case atStart => exact ⟨0, [], Nat.zero_le _, rfl, rfl, by show _ = _; rw [Mk.Fo.drop_zero]; rfl, Below.refl _ _⟩
      case round =>
        obtain ⟨k, pre, hk, rfl, rfl, HL, BL⟩ := hrel
        have hsz := BL.out.size
        by_cases hlt : k < f.len
        · obtain ⟨n, a, t, kk, r, hd, hd1⟩ := Mk.Fo.drop_lt f k hlt
          obtain ⟨va, vk, c0, c1, c2, c3, hva, hvk⟩ := HAT.out k n a t kk r hd
          obtain ⟨aoa, capa, hva1, _⟩ := id hva
          obtain ⟨aok, capk, xsk, hvk1, _⟩ := id hvk
          subst hva1
          subst hvk1
          have HFR : Hid (∀ W, Below w.heap.size w W → W.cell? ⟨gm, o + k * 4, none⟩ = some (.string (st n)) ∧ W.cell? ⟨gm, o + k * 4 + 2, none⟩ = some (.string (st t)) ∧ W.cell? ⟨gm, o + k * 4 + 3, none⟩ = some (.slice aok kk.len capk)) := fun W hW => ⟨(hW.cell (p := ⟨gm, _, none⟩) hgm).trans c0, (hW.cell (p := ⟨gm, _, none⟩) hgm).trans c2, (hW.cell (p := ⟨gm, _, none⟩) hgm).trans c3⟩
          have hdb : (f.drop k).bulk = 1 + n.length + t.length + Mk.Fo.atB a + kk.bulk + r.bulk := by rw [hd]; rfl
          have hdb2 := Mk.Fo.drop_bulk f k
          have HTI : Hid (∀ W, Below w.heap.size w W → Calls Tryz.prog 17 #[.slice aok kk.len capk, .bool g] W fun e w' => e = .returned (.string (st (Mk.textIn g kk))) ∧ Below W.heap.size W w') := fun W hW => ih kk (by omega) (by omega) g _ K W (hvk.below hK hW) (fun b q => Nat.lt_of_lt_of_le (hK b q) hW.size)
          have hL := HL.out
          rw [hd, textIn_node] at hL
          have hL1 := congrArg List.length hL
          obtain ⟨p0, p2, p3⟩ := HFR.out wr BL.out
          clear HAT HL hd hva hvk hdb hdb2 c0 c1 c2 c3 ih
          go_upto_region 5 with fail
          go_cut [37] (fun b wx => b = .bool (g && Mk.goneB n) ∧ wx = wr)
          case first =>
            clear hL hL1 HTI HFR
            have hgo : Mk.goneB n = (n == [115, 99, 114, 105, 112, 116] || n == [115, 116, 121, 108, 101] || n == [116, 101, 109, 112, 108, 97, 116, 101]) := rfl
            cases g with
            | false =>
              clear hgo
              go_wp2_with fail
              go_meet
              case rel => exact ⟨rfl, rfl⟩
            | true =>
              obtain ⟨b1, h1⟩ : ∃ b, (n == [115, 99, 114, 105, 112, 116]) = b := ⟨_, rfl⟩
              obtain ⟨b2, h2⟩ : ∃ b, (n == [115, 116, 121, 108, 101]) = b := ⟨_, rfl⟩
              obtain ⟨b3, h3⟩ : ∃ b, (n == [116, 101, 109, 112, 108, 97, 116, 101]) = b := ⟨_, rfl⟩
              rw [h1, h2, h3] at hgo
              have HGO := Lib.hid hgo
              clear hgo
              cases b1 with
              | true =>
                go_wp2_with fail
                go_meet
                case rel => exact ⟨by rw [HGO.out]; rfl, rfl⟩
              | false =>
                cases b2 with
                | true =>
                  go_wp2_with fail
                  go_meet
                  case rel => exact ⟨by rw [HGO.out]; rfl, rfl⟩
                | false =>
                  cases b3 with
                  | true =>
                    go_wp2_with fail
                    go_meet
                    case rel => exact ⟨by rw [HGO.out]; rfl, rfl⟩
                  | false =>
                    go_wp2_with fail
                    go_meet
                    case rel => exact ⟨by rw [HGO.out]; rfl, rfl⟩
          case rest =>
            obtain ⟨rfl, hwc⟩ := hcut
            subst wc
            obtain ⟨q, hq⟩ : ∃ q, (g && Mk.goneB n) = q := ⟨_, rfl⟩
            rw [hq] at hL hL1 ⊢
            clear hq
            cases q with
            | true =>
              have HL2 : Hid (pre ++ Mk.textIn g (f.drop (k + 1)) = Mk.textIn g f) := by show _ = _; rw [hd1]; exact hL
              clear hL hL1 HTI HFR p0 p2 p3
              go_wp2_with fail
              go_roundw
              case rel => exact ⟨k + 1, pre, by omega, rfl, by go_num, HL2.out, BL.out⟩
              case measure => simp [intOf]; omega
            | false =>
              have HL2 : Hid ((pre ++ (t ++ Mk.textIn g kk)) ++ Mk.textIn g (f.drop (k + 1)) = Mk.textIn g f) := by show _ = _; rw [hd1, ← hL]; simp
              simp only [Bool.false_eq_true, if_false, List.length_append] at hL1
              clear hL
              generalize Mk.textIn g kk = tk at HTI HL2 hL1
              have q1 : ¬ 9223372036854775807 < (st t).size + (st tk).size := by rw [st_size, st_size]; omega
              have q2 : ¬ 9223372036854775807 < (st pre).size + ((st t).size + (st tk).size) := by rw [st_size, st_size, st_size]; omega
              clear hL1
              go_upto_region 6 with fail
              go_region_held3 (fun w' => w'.cell? ⟨gm, o + k * 4, none⟩ = some (.string (st n)) ∧ w'.cell? ⟨gm, o + k * 4 + 2, none⟩ = some (.string (st t)) ∧ w'.cell? ⟨gm, o + k * 4 + 3, none⟩ = some (.slice aok kk.len capk)) (first
                | exact HFR.out _ BL.out.drew
                | exact HFR.out _ hB2) (first | (go_at_call 17; refine (HTI.out _ BL.out.drew).mono ?_; rintro e w2 ⟨rfl, hb2⟩; have hB2 : Below w.heap.size w w2 := BL.out.drew.trans (hb2.mono hsz)))
              all_goals
                have HV : Hid (st pre ++ (st t ++ st tk) = st (pre ++ (t ++ tk))) := by show _ = _; rw [st_app, st_app]
                have HB2 := Lib.hid hB2
                clear hb2 hB2 HFR HTI q1 q2 p0 p2 p3
                go_wp2_with fail
                go_roundw
                case rel => exact ⟨k + 1, _, by omega, by rw [HV.out], by go_num, HL2.out, HB2.out⟩
                case measure => simp [intOf]; omega
        · have hke : k = f.len := by omega
          rw [hke, Mk.Fo.drop_len] at HL
          have HL2 : Hid (pre = Mk.textIn g f) := by have h := HL.out; rwa [show Mk.textIn g .nil = [] from rfl, List.append_nil] at h
          clear HL HAT
          go_wp2_with fail
          go_ret
          exact ⟨by rw [← HL2.out]; rfl, BL.out⟩
    · subst hnil
      subst hv1
      clear HAT
      go_enter Tryz.func17, Tryz.ntmps17
      go_wp2_with fail
      go_loopw [5, 6] (fun s i wr => s = .string (st []) ∧ i = .int .i64 0 ∧ wr = w) (fun _ _ _ => 0)
      case atStart => exact ⟨rfl, rfl, rfl⟩
      case round =>
        obtain ⟨rfl, rfl, rfl⟩ := hrel
        go_wp2_with fail
        go_ret
        exact ⟨rfl, Below.refl _ _⟩
end Go.Proofs.YteidgdpaolieaaaGreatDoor
