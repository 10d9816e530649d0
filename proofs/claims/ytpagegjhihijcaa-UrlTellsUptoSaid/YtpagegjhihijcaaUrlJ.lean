/- Contracts of Resolved and Resolve. Condition: a base and a link of at most 3000 bytes. -/
import Derived.Test.YtpagegjhihijcaaUrlI
import Derived.Deep.CutBlock
namespace Go.Proofs.Ytpagegjhihijcaa
open Go.RowKit

def rPath (b u : Mg.U) : List UInt8 := if u.hs || u.ha then u.pa else if u.pa = [] then b.pa else if Mg.isAt 47 u.pa then u.pa else Mg.mergeP b u
def rU1 (b u : Mg.U) : Mg.U := if u.hs || u.ha then u else if u.pa = [] then (if u.hq then u else { u with qu := b.qu, hq := b.hq }) else u
def rU2 (b u : Mg.U) : Mg.U := if u.hs then rU1 b u else if u.ha then { rU1 b u with sch := b.sch, hs := true } else { rU1 b u with sch := b.sch, hs := true, au := b.au, ha := b.ha }
theorem rU_res (b u : Mg.U) : { rU2 b u with pa := Mg.dots (rPath b u) } = Mg.resU b u := by
  obtain ⟨s, a, p, q, f, hs, ha, hq, hf⟩ := u
  unfold Mg.resU rU2 rU1 rPath
  cases hs <;> cases ha <;> cases hq <;> by_cases hp : p = [] <;> simp [hp]
theorem split_le (s : List UInt8) : (Mg.split s).sch.length ≤ s.length ∧ (Mg.split s).au.length ≤ s.length ∧ (Mg.split s).pa.length ≤ s.length ∧ (Mg.split s).qu.length ≤ s.length ∧ (Mg.split s).fr.length ≤ s.length := by
  have a1 : (Mg.afterSch s).length ≤ s.length := by unfold Mg.afterSch; split <;> simp
  have a2 : ∀ r, (Mg.afterAu r).length ≤ r.length := fun r => by
    unfold Mg.afterAu; split
    · refine Nat.le_trans (past_len _ _) ?_; simp
    · omega
  have a3 : ∀ r, (Mg.afterQu r).length ≤ r.length := fun r => by
    unfold Mg.afterQu; split
    · refine Nat.le_trans (past_len _ _) ?_; simp
    · omega
  have up : ∀ p r, (Mg.upto p r).length ≤ r.length := fun p r => (List.takeWhile_prefix _).length_le
  have b2 := a2 (Mg.afterSch s)
  have b3 := past_len Mg.stopP (Mg.afterAu (Mg.afterSch s))
  have b4 := a3 (Mg.past Mg.stopP (Mg.afterAu (Mg.afterSch s)))
  refine ⟨?_, ?_, ?_, ?_, ?_⟩
  · show (if _ then _ else _ : List UInt8).length ≤ _
    split <;> simp; omega
  · show (if _ then _ else _ : List UInt8).length ≤ _
    split
    · have := up Mg.stopA ((Mg.afterSch s).drop 2); rw [List.length_drop] at this; omega
    · simp
  · have := up Mg.stopP (Mg.afterAu (Mg.afterSch s)); show (Mg.upto _ _).length ≤ _; omega
  · show (if _ then _ else _ : List UInt8).length ≤ _
    split
    · have := up Mg.stopQ (Mg.past Mg.stopP (Mg.afterAu (Mg.afterSch s))).tail; rw [List.length_tail] at this; omega
    · simp
  · show (List.tail _).length ≤ _
    rw [List.length_tail]; omega
theorem merge_le (b u : Mg.U) : (Mg.mergeP b u).length ≤ b.pa.length + u.pa.length + 1 := by
  unfold Mg.mergeP
  split
  · simp
  · have := (List.dropWhile_suffix (l := b.pa.reverse) (fun c : UInt8 => c != 47)).length_le
    simp at this ⊢
    omega
theorem rPath_le (b u : Mg.U) : (rPath b u).length ≤ b.pa.length + u.pa.length + 1 := by
  have := merge_le b u
  unfold rPath
  split
  · omega
  split
  · omega
  split <;> omega

theorem rU2_le (b u : Mg.U) : (rU2 b u).sch.length ≤ b.sch.length + u.sch.length ∧ (rU2 b u).au.length ≤ b.au.length + u.au.length ∧ (rU2 b u).qu.length ≤ b.qu.length + u.qu.length ∧ (rU2 b u).fr.length ≤ u.fr.length := by
  obtain ⟨s, a, p, q, f, hs, ha, hq, hf⟩ := u
  unfold rU2 rU1
  cases hs <;> cases ha <;> cases hq <;> by_cases hp : p = [] <;> simp [hp] <;> omega
/-- the state of Resolved: the base in block B, the link as it stands in the next. -/
structure RSt (w wk : World) (B : Nat) (b u : Mg.U) : Prop where
  le : w.heap.size ≤ B
  below : Below w.heap.size w wk
  bb : Blk wk B 23 (uCells b)
  uu : Blk wk (B + 1) 23 (uCells u)
theorem RSt.grow {w wk w1 : World} {B : Nat} {b u : Mg.U} (h : RSt w wk B b u) (hb : Below wk.heap.size wk w1) : RSt w w1 B b u :=
  ⟨h.le, h.below.trans (hb.mono h.below.size), h.bb.below hb h.bb.lt, h.uu.below hb h.uu.lt⟩
theorem RSt.drew {w wk : World} {B : Nat} {b u : Mg.U} (h : RSt w wk B b u) (n : Nat) : RSt w (wk.drewN n) B b u :=
  ⟨h.le, below_drewN h.below n, h.bb.drewN n, h.uu.drewN n⟩
theorem RSt.drew1 {w wk : World} {B : Nat} {b u : Mg.U} (h : RSt w wk B b u) : RSt w wk.drew B b u := ⟨h.le, h.below.drew, h.bb.drew, h.uu.drew⟩
theorem RSt.put {w wk : World} {B : Nat} {b u : Mg.U} (h : RSt w wk B b u) (i : Nat) (v : Value) (u' : Mg.U) (hu : (uCells u).setIfInBounds i v = uCells u') : RSt w (wk.setCell ⟨B + 1, i, none⟩ v) B b u' :=
  ⟨h.le, h.below.setCell (by have := h.le; show _ ≤ B + 1; omega) _, h.bb.far (by show B ≠ B + 1; omega) _, by rw [← hu]; exact h.uu.set_ i v⟩
theorem RSt.start {w w2 : World} (b u : Mg.U) (hb : Below w.heap.size w w2) : RSt w ((w2.alloc (.cells (uCells b) 23)).alloc (.cells (uCells u) 23)) w2.heap.size b u := by
  have e1 : (w2.alloc (.cells (uCells b) 23)).heap.size = w2.heap.size + 1 := by simp
  have b1 := Blk.new (w2.alloc (.cells (uCells b) 23)) 23 (uCells u)
  rw [e1] at b1
  have := hb.size
  exact ⟨hb.size, (hb.alloc hb.size _).alloc (by omega) _, (Blk.new w2 _ _).alloc _, b1⟩

set_option maxHeartbeats 2000000 in
set_option maxRecDepth 100000 in
theorem url_Resolved (base s : ByteArray) (w : World) (hb : base.size ≤ 3000) (hs : s.size ≤ 3000) :
    Calls Try.prog 24 #[.string base, .string s] w fun e w' => e = .returned (.tuple #[.string (st (Mg.join (Mg.resU (Mg.split base.data.toList) (Mg.split s.data.toList)))), .bool (Mg.joinOk (Mg.resU (Mg.split base.data.toList) (Mg.split s.data.toList)))]) ∧ Below w.heap.size w w' := by
  go_enter Try.func24, Try.ntmps24
  go_wp2_with fail
  refine (url_Parts base _ (by omega)).mono ?_
  rintro e w1 ⟨rfl, hb1⟩
  obtain ⟨b, hbe⟩ : ∃ b, b = Mg.split base.data.toList := ⟨_, rfl⟩
  rw [← hbe]
  have BE := Lib.hid hbe
  clear hbe
  go_wp2_with fail
  refine (url_Parts s _ (by omega)).mono ?_
  rintro e w2 ⟨rfl, hb2⟩
  obtain ⟨u, hue⟩ : ∃ u, u = Mg.split s.data.toList := ⟨_, rfl⟩
  rw [← hue]
  have UE := Lib.hid hue
  have hbw := hb1.trans (hb2.mono hb1.size)
  have r0 := RSt.start b u hbw
  clear hb1 hb2 hue hbw
  unfold uVal
  go_upto_region 2 with fail
  change Code.wp _ _ _ _ ((w2.alloc (.cells (uCells b) 23)).alloc (.cells (uCells u) 23))
  generalize (w2.alloc (.cells (uCells b) 23)).alloc (.cells (uCells u) 23) = w3 at r0 ⊢
  generalize w2.heap.size = B at r0 ⊢
  have c2 : w3.cell? ⟨B + 1, 2, none⟩ = some (.string (st u.pa)) := r0.uu.cell 2
  have c5 : w3.cell? ⟨B + 1, 5, none⟩ = some (.bool u.hs) := r0.uu.cell 5
  have c6 : w3.cell? ⟨B + 1, 6, none⟩ = some (.bool u.ha) := r0.uu.cell 6
  go_upto_block 0 with fail
  go_cut [8] (fun s8 wx => s8 = .string (st (rPath b u)) ∧ RSt w wx B b (rU1 b u))
  case first =>
    by_cases hsa : u.hs = true ∨ u.ha = true
    · have P : Hid (rPath b u = u.pa ∧ rU1 b u = u) := by
        have h : (u.hs || u.ha) = true := by simpa using hsa
        exact ⟨by simp [rPath, h], by simp [rU1, h]⟩
      by_cases h1 : u.hs = true
      · rw [h1] at c5
        clear h1 hsa
        go_wp2_with fail
        go_meet
        case rel => rw [P.out.1, P.out.2]; exact ⟨rfl, r0⟩
      · have h2 : u.ha = true := hsa.resolve_left h1
        have h3 : u.hs = false := by simpa using h1
        rw [h3] at c5
        rw [h2] at c6
        clear h1 h2 h3 hsa
        go_wp2_with fail
        go_meet
        case rel => rw [P.out.1, P.out.2]; exact ⟨rfl, r0⟩
    · have h3 : u.hs = false := by cases h : u.hs with | false => rfl | true => exact absurd (.inl h) hsa
      have h4 : u.ha = false := by cases h : u.ha with | false => rfl | true => exact absurd (.inr h) hsa
      have H : Hid ((u.hs || u.ha) = false) := by show _ = _; rw [h3, h4]; rfl
      rw [h3] at c5
      rw [h4] at c6
      clear h3 h4 hsa
      by_cases hp : u.pa = []
      · have hpe : (st u.pa).toList = [] := by rw [hp]; exact Lib.toList_data _
        have cb : w3.cell? ⟨B, 2, none⟩ = some (.string (st b.pa)) := r0.bb.cell 2
        have c7 : w3.cell? ⟨B + 1, 7, none⟩ = some (.bool u.hq) := r0.uu.cell 7
        cases hq : u.hq with
        | true =>
          rw [hq] at c7
          have P : Hid (rPath b u = b.pa ∧ rU1 b u = u) := ⟨by simp [rPath, H.out, hp], by simp [rU1, H.out, hp, hq]⟩
          clear hq hp
          go_wp2_with fail
          go_meet
          case rel => rw [P.out.1, P.out.2]; exact ⟨rfl, r0⟩
        | false =>
          rw [hq] at c7
          have P : Hid (rPath b u = b.pa ∧ rU1 b u = { u with qu := b.qu, hq := b.hq }) := ⟨by simp [rPath, H.out, hp], by simp [rU1, H.out, hp, hq]⟩
          have d3 : w3.cell? ⟨B, 3, none⟩ = some (.string (st b.qu)) := r0.bb.cell 3
          have d7 : w3.cell? ⟨B, 7, none⟩ = some (.bool b.hq) := r0.bb.cell 7
          have c3 : w3.cell? ⟨B + 1, 3, none⟩ = some (.string (st u.qu)) := r0.uu.cell 3
          have f3 : w3.frozen? ⟨B + 1, 3, none⟩ = false := r0.uu.frozen 3
          have f7 : w3.frozen? ⟨B + 1, 7, none⟩ = false := r0.uu.frozen 7
          clear hq hp
          go_wp2_with fail
          go_region
          all_goals
            go_wp2_with fail
            go_meet
            case rel =>
              rw [P.out.1, P.out.2]
              exact ⟨rfl, ((r0.put 3 (.string (st b.qu)) { u with qu := b.qu } rfl).put 7 (.bool b.hq) { u with qu := b.qu, hq := b.hq } rfl).drew1⟩
      · have hpe : (st u.pa).toList.isEmpty = false := by
          have e1 : (st u.pa).toList = u.pa := Lib.toList_data _
          rw [e1]
          cases hx : u.pa with
          | nil => exact absurd hx hp
          | cons _ _ => rfl
        have hpos : 0 < (st u.pa).size := List.length_pos_iff.2 hp
        obtain ⟨c, t, hct⟩ := List.exists_cons_of_ne_nil hp
        have hc0 : (st u.pa)[0]'hpos = c := by
          have h : (st u.pa).data.toList[0]? = some ((st u.pa)[0]'hpos) := Lib.data_getElem? (st u.pa) 0 hpos
          have h2 : (st u.pa).data.toList[0]? = some c := by rw [bs_st, hct]; rfl
          rw [h2] at h
          injection h with h
          exact h.symm
        by_cases h47 : c = 47
        · have hne : ((((st u.pa)[0]'hpos).toNat : Int) != 47) = false := by rw [hc0, h47]; decide
          have P : Hid (rPath b u = u.pa ∧ rU1 b u = u) := ⟨by simp [rPath, H.out, hct, Mg.isAt, h47], by simp [rU1, H.out, hp]⟩
          clear hc0 hct hp
          go_wp2_with fail
          go_meet
          case rel => rw [P.out.1, P.out.2]; exact ⟨rfl, r0⟩
        · have hne : ((((st u.pa)[0]'hpos).toNat : Int) != 47) = true := by
            rw [hc0, bne_iff_ne]
            intro e
            exact h47 (UInt8.toNat_inj.1 (by rw [show (47 : UInt8).toNat = 47 from rfl]; omega))
          have P : Hid (rPath b u = Mg.mergeP b u ∧ rU1 b u = u) := ⟨by simp [rPath, H.out, hct, Mg.isAt, h47], by simp [rU1, H.out, hp]⟩
          clear hc0 hct hp
          have m0 : w3.cell? ⟨B, 0, none⟩ = some (.string (st b.sch)) := r0.bb.cell 0
          have n0 : w3.cell? ⟨B + 1, 0, none⟩ = some (.string (st u.sch)) := r0.uu.cell 0
          have m1 : w3.cell? ⟨B, 1, none⟩ = some (.string (st b.au)) := r0.bb.cell 1
          have n1 : w3.cell? ⟨B + 1, 1, none⟩ = some (.string (st u.au)) := r0.uu.cell 1
          have m2 : w3.cell? ⟨B, 2, none⟩ = some (.string (st b.pa)) := r0.bb.cell 2
          have n2 : w3.cell? ⟨B + 1, 2, none⟩ = some (.string (st u.pa)) := r0.uu.cell 2
          have m3 : w3.cell? ⟨B, 3, none⟩ = some (.string (st b.qu)) := r0.bb.cell 3
          have n3 : w3.cell? ⟨B + 1, 3, none⟩ = some (.string (st u.qu)) := r0.uu.cell 3
          have m4 : w3.cell? ⟨B, 4, none⟩ = some (.string (st b.fr)) := r0.bb.cell 4
          have n4 : w3.cell? ⟨B + 1, 4, none⟩ = some (.string (st u.fr)) := r0.uu.cell 4
          have m5 : w3.cell? ⟨B, 5, none⟩ = some (.bool b.hs) := r0.bb.cell 5
          have n5 : w3.cell? ⟨B + 1, 5, none⟩ = some (.bool u.hs) := r0.uu.cell 5
          have m6 : w3.cell? ⟨B, 6, none⟩ = some (.bool b.ha) := r0.bb.cell 6
          have n6 : w3.cell? ⟨B + 1, 6, none⟩ = some (.bool u.ha) := r0.uu.cell 6
          have m7 : w3.cell? ⟨B, 7, none⟩ = some (.bool b.hq) := r0.bb.cell 7
          have n7 : w3.cell? ⟨B + 1, 7, none⟩ = some (.bool u.hq) := r0.uu.cell 7
          have m8 : w3.cell? ⟨B, 8, none⟩ = some (.bool b.hf) := r0.bb.cell 8
          have n8 : w3.cell? ⟨B + 1, 8, none⟩ = some (.bool u.hf) := r0.uu.cell 8
          go_wp2_with fail
          refine (url_merged b { u with hs := false, ha := false } _ (by have := split_le base.data.toList; rw [BE.out]; simp at this ⊢; omega) (by have := split_le s.data.toList; rw [UE.out]; simp at this ⊢; omega)).mono ?_
          rintro e w4 ⟨rfl, hb4⟩
          have r1 := r0.grow hb4
          clear hb4
          go_wp2_with fail
          go_meet
          case rel => rw [P.out.1, P.out.2]; exact ⟨rfl, r1⟩
  case rest =>
    obtain ⟨rfl, r1⟩ := hcut
    clear c2 c5 c6 r0
    obtain ⟨u1, hu1⟩ : ∃ u1, u1 = rU1 b u := ⟨_, rfl⟩
    have hks : u1.hs = u.hs ∧ u1.ha = u.ha := by rw [hu1]; unfold rU1; split; exact ⟨rfl, rfl⟩; split; split; exact ⟨rfl, rfl⟩; exact ⟨rfl, rfl⟩; exact ⟨rfl, rfl⟩
    rw [← hu1] at r1
    have H1 := Lib.hid hu1; have HK := Lib.hid hks
    clear hu1 hks
    have c5 : wc.cell? ⟨B + 1, 5, none⟩ = some (.bool u1.hs) := r1.uu.cell 5
    go_upto_if 45 with fail
    go_cut [] (fun wx => RSt w wx B b (rU2 b u))
    case first =>
      cases h : u1.hs with
      | true =>
        rw [h] at c5
        have P : Hid (rU2 b u = u1) := by show _ = _; rw [rU2, if_pos (by rw [← HK.out.1]; exact h), H1.out]
        clear h
        go_wp2_with fail
        go_meet
        case rel => rw [P.out]; exact r1
      | false =>
        rw [h] at c5
        have hns : ¬ u.hs = true := by rw [← HK.out.1, h]; exact Bool.false_ne_true
        have d0 : wc.cell? ⟨B, 0, none⟩ = some (.string (st b.sch)) := r1.bb.cell 0
        have c0 : wc.cell? ⟨B + 1, 0, none⟩ = some (.string (st u1.sch)) := r1.uu.cell 0
        have c6 : wc.cell? ⟨B + 1, 6, none⟩ = some (.bool u1.ha) := r1.uu.cell 6
        have f0 : wc.frozen? ⟨B + 1, 0, none⟩ = false := r1.uu.frozen 0
        have f5 : wc.frozen? ⟨B + 1, 5, none⟩ = false := r1.uu.frozen 5
        have r2 := (r1.put 0 (.string (st b.sch)) { u1 with sch := b.sch } rfl).put 5 (.bool true) { u1 with sch := b.sch, hs := true } rfl
        cases h6 : u1.ha with
        | true =>
          rw [h6] at c6
          have P : Hid (rU2 b u = { u1 with sch := b.sch, hs := true }) := by show _ = _; rw [rU2, if_neg hns, if_pos (by rw [← HK.out.2]; exact h6), H1.out]
          clear h h6 hns
          go_wp2_with fail
          go_meet
          case rel => rw [P.out]; exact r2
        | false =>
          rw [h6] at c6
          have P : Hid (rU2 b u = { u1 with sch := b.sch, hs := true, au := b.au, ha := b.ha }) := by show _ = _; rw [rU2, if_neg hns, if_neg (by rw [← HK.out.2, h6]; exact Bool.false_ne_true), H1.out]
          have d1 : wc.cell? ⟨B, 1, none⟩ = some (.string (st b.au)) := r1.bb.cell 1
          have d6 : wc.cell? ⟨B, 6, none⟩ = some (.bool b.ha) := r1.bb.cell 6
          have c1 : wc.cell? ⟨B + 1, 1, none⟩ = some (.string (st u1.au)) := r1.uu.cell 1
          have f1 : wc.frozen? ⟨B + 1, 1, none⟩ = false := r1.uu.frozen 1
          have f6 : wc.frozen? ⟨B + 1, 6, none⟩ = false := r1.uu.frozen 6
          clear h h6 hns
          go_wp2_with fail
          go_region
          all_goals
            go_wp2_with fail
            go_meet
            case rel =>
              rw [P.out]
              exact ((r2.put 1 (.string (st b.au)) { u1 with sch := b.sch, hs := true, au := b.au } rfl).put 6 (.bool b.ha) { u1 with sch := b.sch, hs := true, au := b.au, ha := b.ha } rfl).drew1
    case rest =>
      obtain ⟨u2, hu2⟩ : ∃ u2, u2 = rU2 b u := ⟨_, rfl⟩
      rw [← hu2] at hcut
      have H2 := Lib.hid hu2
      clear hu2 c5 r1
      have lb := split_le base.data.toList
      have ls := split_le s.data.toList
      have lp := rPath_le b u
      rw [← BE.out] at lb
      rw [← UE.out] at ls
      simp only [bs_len] at lb ls
      go_wp2_with fail
      refine (url_Without _ _ (by show (rPath b u).length ≤ _; omega)).mono ?_
      rintro e w4 ⟨rfl, hb4⟩
      have r3 := hcut.grow hb4
      change RSt w w4 B b u2 at r3
      have c2 : w4.cell? ⟨B + 1, 2, none⟩ = some (.string (st u2.pa)) := r3.uu.cell 2
      have f2 : w4.frozen? ⟨B + 1, 2, none⟩ = false := r3.uu.frozen 2
      obtain ⟨u3, hu3⟩ : ∃ u3, u3 = ({ u2 with pa := Mg.dots (rPath b u) } : Mg.U) := ⟨_, rfl⟩
      have r4 : RSt w (w4.setCell ⟨B + 1, 2, none⟩ (.string (st (Mg.dots (rPath b u))))) B b u3 := by rw [hu3]; exact r3.put 2 _ _ rfl
      have hres : u3 = Mg.resU b u := by rw [hu3, H2.out]; exact rU_res b u
      have lu : u3.sch.length + u3.au.length + u3.pa.length + u3.qu.length + u3.fr.length ≤ 1048576 := by
        have h1 := rU2_le b u
        have h2 := Mg.dots_len (rPath b u)
        rw [hu3, H2.out]
        simp only
        omega
      have HR := Lib.hid hres
      clear hu3 hres
      go_upto_region 15 with fail
      change Code.wp _ _ _ _ (w4.setCell ⟨B + 1, 2, none⟩ (.string (st (Mg.dots (rPath b u)))))
      generalize w4.setCell ⟨B + 1, 2, none⟩ (.string (st (Mg.dots (rPath b u)))) = w5 at r4 ⊢
      clear c2 f2 r3
      have n0 : w5.cell? ⟨B + 1, 0, none⟩ = some (.string (st u3.sch)) := r4.uu.cell 0
      have n1 : w5.cell? ⟨B + 1, 1, none⟩ = some (.string (st u3.au)) := r4.uu.cell 1
      have n2 : w5.cell? ⟨B + 1, 2, none⟩ = some (.string (st u3.pa)) := r4.uu.cell 2
      have n3 : w5.cell? ⟨B + 1, 3, none⟩ = some (.string (st u3.qu)) := r4.uu.cell 3
      have n4 : w5.cell? ⟨B + 1, 4, none⟩ = some (.string (st u3.fr)) := r4.uu.cell 4
      have n5 : w5.cell? ⟨B + 1, 5, none⟩ = some (.bool u3.hs) := r4.uu.cell 5
      have n6 : w5.cell? ⟨B + 1, 6, none⟩ = some (.bool u3.ha) := r4.uu.cell 6
      have n7 : w5.cell? ⟨B + 1, 7, none⟩ = some (.bool u3.hq) := r4.uu.cell 7
      have n8 : w5.cell? ⟨B + 1, 8, none⟩ = some (.bool u3.hf) := r4.uu.cell 8
      go_wp2_with fail
      refine (url_joined u3 _ lu).mono ?_
      rintro e w6 ⟨rfl, hb6⟩
      go_wp2_with fail
      go_ret2
      exact ⟨by rw [← BE.out, ← UE.out, ← HR.out]; rfl, r4.below.trans (hb6.mono r4.below.size)⟩
end Go.Proofs.Ytpagegjhihijcaa
