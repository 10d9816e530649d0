/- Contract of the reference's joinText at a text. -/
import Derived.Test.YteidgdpaolieaaaGreatDoorZMkTok8
import Derived.Test.YteidgdpaolieaaaGreatDoorZMkClean4
import Derived.Deep.AppendSrc
import Derived.Test.YteidgdpaolieaaaGreatDoorZMkTok5
import Derived.Deep.RegionHeld3
import Derived.Test.YteidgdpaolieaaaGreatDoorZUrlPlain
namespace Go.Proofs.YteidgdpaolieaaaGreatDoor
open Go.RowKit
theorem AtsV.oneCell {w : World} {K : Nat → Prop} {v : Value} {l : List Mk.At} (h : AtsV w K v l) : v.oneCell' = true := by
  obtain ⟨ao, cap, h1, _⟩ := h
  rw [h1]; rfl
theorem FCells.oneCell {w : World} {K : Nat → Prop} : ∀ {f : Mk.Fo} {xs : List Value}, FCells w K f xs → ∀ u ∈ xs, u.oneCell' = true
  | .nil, xs, h, u, hu => by have h : xs = [] := h; rw [h] at hu; cases hu
  | .node _ _ _ _ _, xs, ⟨va, ao, cap, zs, ys, h1, h2, h3, h4, h5, h6⟩, u, hu => by
    rw [h1] at hu
    rcases List.mem_append.1 hu with hu | hu
    · simp at hu
      rcases hu with rfl | rfl | rfl | rfl
      · rfl
      · exact h2.oneCell
      · rfl
      · rfl
    · exact h6.oneCell u hu
set_option maxHeartbeats 8000000 in
set_option maxRecDepth 100000 in
theorem rf_joinText (f : Mk.Fo) (t : List UInt8) (v : Value) (B : Nat) (K : Nat → Prop) (xs : List Value) (w : World) (hF : OwnF w B K v f xs) (hB : B ≤ w.heap.size) (hl : f.bulk + t.length ≤ 1099511627776) :
    Calls Tryz.prog 32 #[v, .agg #[.string ⟨#[]⟩, .slice none 0 0, .string (st t), .slice none 0 0]] w fun e w' => ∃ v' xs', e = .returned v' ∧ OwnF w' B K v' (Mk.Fo.snoc [] [] t .nil f) xs' ∧ Ap (fun b => v.ownBlock = some b) w w' ∧ freshOf w v v' := by
  have hst : ∀ l : List UInt8, (st l).toList = l := fun l => Lib.toList_data _
  have hfl := Mk.Fo.len_bulk f
  have htl := Mk.Fo.lastT_bulk f
  have hal := (Below.refl w.heap.size w).alloc (Nat.le_refl _) (.cells #[.string ⟨#[]⟩, .slice none 0 0, .string (st t), .slice none 0 0] 52)
  have PB := Lib.hid (Blk.new w 52 #[.string ⟨#[]⟩, .slice none 0 0, .string (st t), .slice none 0 0])
  have OF1 := Lib.hid (hF.frame hal.size (fun b hb _ => hal.block b hb))
  have AP1 : Hid (Ap (fun b => v.ownBlock = some b) w (w.alloc (.cells #[.string ⟨#[]⟩, .slice none 0 0, .string (st t), .slice none 0 0] 52))) := Ap.of_below hal
  have hvP : v.ownBlock ≠ some w.heap.size := fun e => by have := (hF.own.lt _ e).2; omega
  have HVP := Lib.hid hvP
  have hsz : w.heap.size + 1 = (w.alloc (.cells #[.string ⟨#[]⟩, .slice none 0 0, .string (st t), .slice none 0 0] 52)).heap.size := by simp
  obtain ⟨ao0, cap0, hu0⟩ := own_slice hF.own
  clear hF hal hvP
  subst hu0
  go_enter Tryz.func32, Tryz.ntmps32
  go_upto_region 1 with fail
  generalize (w.alloc (.cells #[.string ⟨#[]⟩, .slice none 0 0, .string (st t), .slice none 0 0] 52)) = w1 at PB OF1 AP1 hsz ⊢
  generalize hP : w.heap.size = P at PB HVP hB hsz ⊢
  have p0 : w1.cell? ⟨P, 0, none⟩ = some (.string ⟨#[]⟩) := Blk.cell PB.out 0
  have p2 : w1.cell? ⟨P, 2, none⟩ = some (.string (st t)) := Blk.cell PB.out 2
  have p1 : w1.cell? ⟨P, 1, none⟩ = some (.slice none 0 0) := Blk.cell PB.out 1
  have p3 : w1.cell? ⟨P, 3, none⟩ = some (.slice none 0 0) := Blk.cell PB.out 3
  have HPW := Lib.hid hP
  clear hP
  go_upto_region 2 with fail
  go_cut [24] (fun b wx => b = .bool (f.merges []) ∧ w1 = wx)
  case first =>
    as_aux_lemma =>
    by_cases hf0 : f = .nil
    · have HM : Hid (f.merges [] = false) := by show _ = _; rw [hf0, Mk.Fo.merges_nil]
      have hl0 : ¬ 0 < f.len := by rw [hf0]; simp [Mk.Fo.len]
      clear hf0
      go_wp2_with fail
      go_meet
      case rel => exact ⟨by rw [HM.out], rfl⟩
    · obtain ⟨g0, capz, hz, d1, d2, df⟩ := OF1.out.last hf0
      injection hz with z1 z2 z3
      subst z1
      subst z3
      have hl0 : 0 < f.len := Fo_len_pos f hf0
      obtain ⟨j, hj⟩ : ∃ j, j = f.len - 1 := ⟨_, rfl⟩
      rw [← hj] at d1
      have hj1 : (f.len : Int) - 1 = j := by omega
      have hj2 : (j : Int) < f.len := by omega
      have hj3 : (0 : Int) ≤ j := by omega
      have hbl : f.lastN = [] ∨ f.lastN.isEmpty = false := by
        cases f.lastN with
        | nil => exact .inl rfl
        | cons _ _ => exact .inr rfl
      have HF0 := Lib.hid hf0
      clear hj d2 df hf0 z2
      rcases hbl with h1 | h1
      · have HM : Hid (f.merges [] = true) := (Mk.Fo.merges_iff _ _).2 ⟨rfl, HF0.out, h1⟩
        have he1 : f.lastN.isEmpty = true := by rw [h1]; rfl
        clear h1
        go_wp2_with fail
        go_meet
        case rel => exact ⟨by rw [HM.out], rfl⟩
      · have HM : Hid (f.merges [] = false) := by
          show _ = _
          rw [Bool.eq_false_iff]
          intro q
          rw [((Mk.Fo.merges_iff _ _).1 q).2.2] at h1
          cases h1
        go_wp2_with fail
        go_meet
        case rel => exact ⟨by rw [HM.out], rfl⟩
  case rest =>
  as_aux_lemma =>
  obtain ⟨rfl, hwx⟩ := hcut
  subst hwx
  obtain ⟨i0, hi, hz0, hz1, hz2⟩ := info_parts Tryz.infoNode
  cases hm : f.merges [] with
  | false =>
    as_aux_lemma =>
    have HMB := Lib.hid hm
    clear hm
    have ow10 := own_ap' OF1.out.own ((Ap.refl (fun _ => False) w1).alloc (.cells #[.string ⟨#[]⟩, .slice none 0 0, .string (st t), .slice none 0 0] 52)) (fun _ _ q => q)
    have hal2 := (Below.refl w1.heap.size w1).alloc (Nat.le_refl _) (.cells #[.string ⟨#[]⟩, .slice none 0 0, .string (st t), .slice none 0 0] 52)
    go_wp2_with (at_builtin; refine wpList_append_fresh rfl _ _ 22 rfl B 52 i0 (.agg #[.string ⟨#[]⟩, .slice none 0 0, .string ⟨#[]⟩, .slice none 0 0]) 4 80 Tryz.underlying22 hi hz0 hz1 hz2 rfl (by decide) _ _ _ rfl ow10 ⟨w1.heap.size, 0, none⟩ 1 1 [.string ⟨#[]⟩, .slice none 0 0, .string (st t), .slice none 0 0] rfl rfl (cells_new _ _ _) (by intro u hu; simp at hu; rcases hu with rfl | rfl | rfl | rfl <;> rfl) (by decide) (by unfold maxLen; omega) (by omega) (by simp; omega) ?_)
    intro v' w2 hown' hgrow hfresh
    have hfr2 : v'.ownBlock = (Value.slice ao0 f.len cap0).ownBlock ∨ v'.ownBlock = some (w1.alloc (.cells #[.string ⟨#[]⟩, .slice none 0 0, .string (st t), .slice none 0 0] 52)).heap.size := hfresh.imp id (fun e => by rw [e]; simp)
    have OFP := Lib.hid (OF1.out.pushed (AtsV.nil _ _) (ao := none) (cap := 0) (zs := []) (k := .nil) (.inl rfl) (Nat.zero_le _) rfl HMB.out hal2 hown' hgrow hfr2)
    have APP : Hid (Ap (fun b => (Value.slice ao0 f.len cap0).ownBlock = some b) w w2) := (AP1.out.alloc (.cells #[.string ⟨#[]⟩, .slice none 0 0, .string (st t), .slice none 0 0] 52)).grown hgrow (fun b hb e => e)
    have FRP : Hid (freshOf w (Value.slice ao0 f.len cap0) v') := by
      rcases hfr2 with e | e
      · exact .inl e
      · exact .inr ⟨_, e, by have := AP1.out.size; simp; omega⟩
    clear hown' hgrow hfresh hfr2 ow10 hal2 OF1 AP1 p0 p1 p2 p3
    go_wp2_with fail
    go_ret
    exact ⟨v', _, rfl, OFP.out, APP.out, FRP.out⟩
  | true =>
    as_aux_lemma =>
    have HM := Lib.hid hm
    have hf0 : f ≠ .nil := ((Mk.Fo.merges_iff _ _).1 hm).2.1
    clear hm
    obtain ⟨g0, capz, hz, d1, d2, df⟩ := OF1.out.last hf0
    injection hz with z1 z2 z3
    subst z1
    subst z3
    have hl0 : 0 < f.len := Fo_len_pos f hf0
    have hoc := FCells.oneCell OF1.out.cells
    have hcs := OF1.out.own.cells (g := g0) rfl
    have hxl := OF1.out.cells.length
    have hg0 := (OF1.out.own.lt g0 rfl).2
    clear z2 d1 d2 df hf0
    have ow0 : (w1.alloc (.cells #[] 52)).ownsRow B 52 4 (.slice (some ⟨w1.heap.size, 0, none⟩) 0 0) 0 [] :=
      ⟨rfl, .inr ⟨w1.heap.size, 0, #[], rfl, by omega, Blk.new w1 _ _, Nat.le_refl _, Nat.zero_le _, rfl, rfl⟩⟩
    have hnews : ∀ j u, xs[j]? = some u → (w1.alloc (.cells #[] 52)).cell? ((⟨g0, 0, none⟩ : Addr).add j) = some u := fun j u q => by
      rw [← hcs j u q]
      have e0 : (⟨g0, 0, none⟩ : Addr).add j = ⟨g0, j, none⟩ := by unfold Addr.add; split <;> simp_all
      rw [e0]
      exact cell_of_block (Below.heap_alloc w1 _ g0 hg0) j
    have hbl0 := (Below.refl w1.heap.size w1).alloc (Nat.le_refl _) (.cells #[] 52)
    go_wp2_with (at_builtin; refine wpList_append_fresh rfl _ _ 22 rfl B 52 i0 (.agg #[.string ⟨#[]⟩, .slice none 0 0, .string ⟨#[]⟩, .slice none 0 0]) 4 80 Tryz.underlying22 hi hz0 hz1 hz2 rfl (by decide) _ _ _ rfl ow0 ⟨g0, 0, none⟩ f.len cap0 xs rfl hxl hnews hoc hl0 (by rw [Nat.zero_add]; unfold maxLen; omega) (by rw [Nat.zero_add]; omega) (by simp; omega) ?_)
    intro v' w3 hown' hgrow hfresh
    have hbk : ∀ b, b < w1.heap.size → w3.heap[b]? = w1.heap[b]? := fun b hb => (hgrow.block b (Nat.lt_of_lt_of_le hb hbl0.size) (fun e => by have e : some b = some w1.heap.size := e; injection e with e; omega)).trans (hbl0.block b hb)
    have hfv : ∀ b, v'.ownBlock = some b → w1.heap.size ≤ b := fun b q => by
      rcases hfresh with e | e
      · rw [q] at e; have e : some b = some w1.heap.size := e; injection e with e; omega
      · rw [q] at e; injection e with e; have := hbl0.size; omega
    have hsz3 : w1.heap.size ≤ w3.heap.size := Nat.le_trans hbl0.size hgrow.size
    have OF3 : Hid (OwnF w3 B K v' f xs) := ⟨by have := hown'; first | exact this | rwa [Nat.zero_add, List.nil_append] at this, OF1.out.cells.frame (fun b hb => ⟨hb, hbk b (OF1.out.le b hb)⟩), fun b q hb => by have := hfv b q; have := OF1.out.le b hb; omega, fun b hb => Nat.lt_of_lt_of_le (OF1.out.le b hb) hsz3⟩
    have AP3 : Hid (Ap (fun b => (Value.slice (some ⟨g0, 0, none⟩) f.len cap0).ownBlock = some b) w w3) := (AP1.out.alloc (.cells #[] 52)).grown hgrow (fun b hb e => by have e : some w1.heap.size = some b := e; injection e with e; have := AP1.out.size; omega)
    have HFV := Lib.hid hfv
    have hP3 : P < w3.heap.size := by omega
    have p2' : w3.cell? ⟨P, 2, none⟩ = some (.string (st t)) := (cell_of_block (hbk P (by omega)) 2).trans p2
    clear hown' hgrow hfresh hbk hfv hbl0 hnews ow0 hoc hcs p0 p1 p2 p3 PB
    have hq := (Mk.Fo.merges_iff _ _).1 HM.out
    obtain ⟨g3, cap3, hz3, d1, d2, df⟩ := OF3.out.last hq.2.1
    subst hz3
    have OFM := Lib.hid (OF3.out.merged [] t .nil HM.out (g := g3) rfl)
    obtain ⟨j, hj⟩ : ∃ j, j = f.len - 1 := ⟨_, rfl⟩
    rw [← hj] at d1 d2 OFM
    have hj1 : (f.len : Int) - 1 = j := by omega
    have hj2 : (j : Int) < f.len := by omega
    have hj3 : (0 : Int) ≤ j := by omega
    have df2 := df (j * 4 + 2)
    have q1 : ¬ 9223372036854775807 < (st f.lastT).size + (st t).size := by rw [st_size, st_size]; omega
    have hg3 := HFV.out g3 rfl
    have hszw := AP1.out.size
    clear hj hq df
    go_wp2_with fail
    go_region
    have AP4 : Hid (Ap (fun b => (Value.slice (some ⟨g0, 0, none⟩) f.len cap0).ownBlock = some b) w (w3.setCell ⟨g3, j * 4 + 2, none⟩ (.string (st (f.lastT ++ t))))) := AP3.out.setNew (p := ⟨g3, j * 4 + 2, none⟩) (by show w.heap.size ≤ g3; omega) _
    have OFM2 : Hid (OwnF (w3.setCell ⟨g3, j * 4 + 2, none⟩ (.string (st (f.lastT ++ t)))) B K (.slice (some ⟨g3, 0, none⟩) f.len cap3) (Mk.Fo.snoc [] [] t .nil f) (xs.set (4 * j + 2) (.string (st (f.lastT ++ t))))) := by
      have := OFM.out
      rw [Nat.mul_comm 4 j] at this
      rw [Nat.mul_comm 4 j]
      exact this
    have FR4 : Hid (freshOf w (.slice (some ⟨g0, 0, none⟩) f.len cap0) (.slice (some ⟨g3, 0, none⟩) f.len cap3)) := .inr ⟨g3, rfl, by omega⟩
    all_goals
      rw [show st f.lastT ++ st t = st (f.lastT ++ t) from app_st (st f.lastT) (st t)]
      have OFM3 := Lib.hid (OFM2.out.frame (w' := (w3.setCell ⟨g3, j * 4 + 2, none⟩ (.string (st (f.lastT ++ t)))).drew) (Nat.le_refl _) (fun _ _ _ => rfl))
      have AP5 := Lib.hid (AP4.out.drew)
      clear OFM OFM2 AP4 OF1 AP1 d1 d2 p2' df2
      go_wp2_with fail
      go_ret
      exact ⟨_, _, rfl, OFM3.out, AP5.out, FR4.out⟩
end Go.Proofs.YteidgdpaolieaaaGreatDoor

/- Contract of the program's check: what is wrong with a tree that stands in elements of some names. Condition: at most 33554432 nodes, names, attributes and letters together. -/
namespace Go.Proofs.YteidgdpaolieaaaGreatDoor
open Go.RowKit
theorem Tryz.infoStr : (Tryz.prog.info? 9).map (fun i => (i.zero, i.size, i.bytes)) = some (some (.string ⟨#[]⟩), 1, 16) := by kernel_rfl
theorem StrsV.of_own {w : World} {K : Nat → Prop} {B : Nat} {e : TypeId} {v : Value} {l : List (List UInt8)} (h : w.ownsRow B e 1 v l.length (strVs l)) (hK : ∀ g, v.ownBlock = some g → K g) : StrsV w K v l := by
  rcases h.2 with ⟨hv, hn⟩ | ⟨g, cap, cur, hv, _, hh, hnc, hcm, hcs, ht⟩
  · have : l = [] := List.eq_nil_of_length_eq_zero hn
    subst this
    exact ⟨none, 0, hv, Nat.le_refl _, .inl rfl, Nat.zero_le _⟩
  · obtain ⟨ao, cap', h1, h2, h3, h4⟩ := RowAt.of_own h hK
    rw [hv] at h1
    injection h1 with e1 e2 e3
    subst e1; subst e3
    exact ⟨_, _, hv, hnc, h2, hcm⟩
theorem tr_Clone (l : List (List UInt8)) (v : Value) (K : Nat → Prop) (w : World) (hv : StrsV w K v l) (hl : l.length ≤ 33554432) :
    Calls Tryz.prog 78 #[v] w fun e w' => ∃ v', e = .returned v' ∧ w'.ownsRow w.heap.size 9 1 v' l.length (strVs l) ∧ Below w.heap.size w w' := by
  obtain ⟨ao, cap, rfl, hcap, hcm, hat⟩ := hv.at_
  rcases hat with h0 | ⟨g, o, rfl, _, hc⟩
  · subst h0
    cases ao with
    | none =>
      refine (Tryz.slices_Clone_string_nil 0 cap w).mono ?_
      rintro e w' ⟨rfl, rfl⟩
      exact ⟨_, rfl, World.ownsRow_nil _ _ _ _, Below.refl _ _⟩
    | some a =>
      refine (Tryz.slices_Clone_string_zero a cap w).mono ?_
      rintro e w' ⟨v', rfl, h1, _, h2⟩
      exact ⟨_, rfl, h1, h2⟩
  · refine (Tryz.slices_Clone_string g o l.length cap (l.map st) w (by simp) (by omega) (fun j hj => ?_)).mono ?_
    · have hj' : j < l.length := by simpa using hj
      rw [hc j hj']
      simp [List.getD, List.getElem?_eq_getElem hj']
    · rintro e w' ⟨v', rfl, h1, _, h2⟩
      refine ⟨_, rfl, ?_, h2⟩
      have : ((l.map st).take l.length).map Value.string = strVs l := by
        rw [List.take_of_length_le (by simp), List.map_map]; rfl
      rwa [this] at h1
def prevOf (w : World) (g o : Nat) (k : Nat) (prev : Bool) : Prop := match k with | 0 => prev = false | j + 1 => ∃ pn : List UInt8, w.cell? ⟨g, o + j * 4, none⟩ = some (.string (st pn)) ∧ prev = decide (pn = [])
theorem checkF_node (names : List (List UInt8)) (prev : Bool) (n : List UInt8) (a : List Mk.At) (t : List UInt8) (k r : Mk.Fo) : Mk.checkF (.node n a t k r) names prev = if Mk.nodeE names n a t k ≠ 0 then Mk.nodeE names n a t k else if n = [] ∧ prev = true then 4 else if Mk.checkF k (names ++ [n]) false ≠ 0 then Mk.checkF k (names ++ [n]) false else Mk.checkF r names (decide (n = [])) := rfl
set_option maxHeartbeats 8000000 in
set_option maxRecDepth 100000 in
theorem tr_check (N : Nat) : ∀ (f : Mk.Fo) (names : List (List UInt8)) (v vn : Value) (K : Nat → Prop) (w : World), f.bulk < N → names.length + f.bulk ≤ 33554432 → FoV w K v f → StrsV w K vn names → (∀ b, K b → b < w.heap.size) →
    Calls Tryz.prog 45 #[v, vn] w fun e w' => e = .returned (.int .i64 (Mk.checkF f names false)) ∧ Below w.heap.size w w' := by
  induction N with
  | zero => intro f names v vn K w hN; omega
  | succ N ih =>
    intro f names v vn K w hN hbk hv hvn hK
    obtain ⟨g, o, cap, hv1, hlen, hat⟩ := hv.at_
    have HAT := Lib.hid hat
    clear hat
    have hfl := Mk.Fo.len_bulk f
    have hst : ∀ l : List UInt8, (st l).toList = l := fun l => Lib.toList_data _
    rcases hv1 with ⟨hv1, hKg⟩ | ⟨ao, hv1, hnil⟩
    · have hgl := hK g hKg
      subst hv1
      go_enter Tryz.func45, Tryz.ntmps45
      go_wp2_with fail
      go_loopw [11] (fun i wr => ∃ (k : Nat) (prev : Bool), k ≤ f.len ∧ i = .int .i64 k ∧ Hid (Mk.checkF f names false = Mk.checkF (f.drop k) names prev) ∧ Hid (prevOf w g o k prev) ∧ Hid (Below w.heap.size w wr)) (fun i _ => f.len - (intOf i).toNat)
      case atStart => exact ⟨0, false, Nat.zero_le _, rfl, by show _ = _; rw [Mk.Fo.drop_zero], rfl, Below.refl _ _⟩
      case round =>
        obtain ⟨k, prev, hk, rfl, HA, HP, BL⟩ := hrel
        have hsz := BL.out.size
        by_cases hlt : k < f.len
        · obtain ⟨n, a, t, kk, r, hd, hd1⟩ := Mk.Fo.drop_lt f k hlt
          obtain ⟨va, vk, c0, c1, c2, c3, hva, hvk⟩ := HAT.out k n a t kk r hd
          have hprev2 : prevOf w g o (k + 1) (decide (n = [])) := ⟨n, c0, rfl⟩
          have HP2 := Lib.hid hprev2
          rw [← BL.out.cell (p := ⟨g, _, none⟩) hgl] at c0 c1 c2 c3
          have hdb := Mk.Fo.drop_bulk f k
          rw [hd] at hdb
          have hkb : kk.bulk + r.bulk + n.length + Mk.Fo.atB a + 1 ≤ f.bulk := by
            have e : (Mk.Fo.node n a t kk r).bulk = 1 + n.length + t.length + Mk.Fo.atB a + kk.bulk + r.bulk := rfl
            omega
          have HD : Hid (Mk.checkF f names false = if Mk.nodeE names n a t kk ≠ 0 then Mk.nodeE names n a t kk else if n = [] ∧ prev = true then 4 else if Mk.checkF kk (names ++ [n]) false ≠ 0 then Mk.checkF kk (names ++ [n]) false else Mk.checkF (f.drop (k + 1)) names (decide (n = []))) := by
            show _ = _
            rw [HA.out, hd, hd1, checkF_node]
          obtain ⟨aoa, capa, hva1, hva2⟩ := id hva
          obtain ⟨aok, capk, xsk, hvk1, hvk2⟩ := id hvk
          subst hva1
          subst hvk1
          have hal := (Below.refl wr.heap.size wr).alloc (Nat.le_refl _) (.cells #[.string (st n), .slice aoa a.length capa, .string (st t), .slice aok kk.len capk] 52)
          have BL1 := Lib.hid (BL.out.trans (hal.mono hsz))
          have PB1 := Lib.hid (Blk.new wr 52 #[.string (st n), .slice aoa a.length capa, .string (st t), .slice aok kk.len capk])
          have hnd := tr_node names n t a kk (.slice aoa a.length capa) (.slice aok kk.len capk) vn K (wr.alloc (.cells #[.string (st n), .slice aoa a.length capa, .string (st t), .slice aok kk.len capk] 52)) (hva.below hK BL1.out) (hvk.below hK BL1.out) (hvn.below hK BL1.out) (fun b hb => Nat.lt_of_lt_of_le (hK b hb) BL1.out.size) (by omega) (by omega) (by omega)
          unfold nodeV at hnd
          generalize Mk.nodeE names n a t kk = ce at hnd HD
          have HND := Lib.hid hnd
          have HVK := Lib.hid hvk
          clear HAT hal hd hd1 hnd HA hva2 hvk2 hva hvk
          go_wp2_with fail
          refine HND.out.mono ?_
          rintro e w2 ⟨rfl, hb2⟩
          have BL2 := Lib.hid (BL1.out.trans (hb2.mono BL1.out.size))
          have PB2 := Lib.hid (Blk.below PB1.out hb2 (Blk.lt PB1.out))
          clear hb2 HND BL1 PB1 BL
          by_cases hc0 : ce = 0
          · subst hc0
            have HD2 : Hid (Mk.checkF f names false = if n = [] ∧ prev = true then 4 else if Mk.checkF kk (names ++ [n]) false ≠ 0 then Mk.checkF kk (names ++ [n]) false else Mk.checkF (f.drop (k + 1)) names (decide (n = []))) := by show _ = _; rw [HD.out]; simp
            clear HD
            have p0 : w2.cell? ⟨wr.heap.size, 0, none⟩ = some (.string (st n)) := Blk.cell PB2.out 0
            have p3 : w2.cell? ⟨wr.heap.size, 3, none⟩ = some (.slice aok kk.len capk) := Blk.cell PB2.out 3
            have hen : n = [] ∨ n.isEmpty = false := by
              cases n with
              | nil => exact .inl rfl
              | cons _ _ => exact .inr rfl
            have HEN := Lib.hid hen
            clear hen c0 c1 c2 c3
            go_upto_region 7 with fail
            go_cut [37] (fun b wx => b = .bool (decide (n = []) && prev) ∧ w2 = wx)
            case first =>
              rcases Nat.eq_zero_or_pos k with h0 | h0
              · have hpf : prev = false := by have := HP.out; subst h0; exact this
                have hk0 : ¬ 0 < k := by omega
                clear h0
                have HPF := Lib.hid hpf
                clear hpf
                go_wp2_with fail
                go_meet
                case rel => exact ⟨by rw [HPF.out, Bool.and_false], rfl⟩
              · obtain ⟨j, hj⟩ : ∃ j, k = j + 1 := ⟨k - 1, by omega⟩
                have hpp : ∃ pn : List UInt8, w.cell? ⟨g, o + j * 4, none⟩ = some (.string (st pn)) ∧ prev = decide (pn = []) := by have := HP.out; subst hj; exact this
                obtain ⟨pn, hpc, hpe⟩ := hpp
                rw [← BL2.out.cell (p := ⟨g, _, none⟩) hgl] at hpc
                have hkj : (k : Int) - 1 = j := by omega
                have hj0 : (0 : Int) ≤ j := by omega
                have hjl : (j : Int) < f.len := by omega
                have HPE := Lib.hid hpe
                have hpn : pn = [] ∨ pn.isEmpty = false := by
                  cases pn with
                  | nil => exact .inl rfl
                  | cons _ _ => exact .inr rfl
                clear hj hpe
                rcases HEN.out with hn | hn
                · have hne : n.isEmpty = true := by rw [hn]; rfl
                  have HN := Lib.hid hn
                  clear hn
                  rcases hpn with hp | hp
                  · have hpe : pn.isEmpty = true := by rw [hp]; rfl
                    have HPN := Lib.hid hp
                    clear hp
                    go_wp2_with fail
                    go_meet
                    case rel => exact ⟨by rw [HPE.out, HN.out, HPN.out]; rfl, rfl⟩
                  · have HPN := Lib.hid (show pn ≠ [] by rintro rfl; cases hp)
                    go_wp2_with fail
                    go_meet
                    case rel => exact ⟨by rw [HPE.out, decide_eq_false HPN.out, Bool.and_false], rfl⟩
                · have HN := Lib.hid (show n ≠ [] by rintro rfl; cases hn)
                  clear hpn
                  go_wp2_with fail
                  go_meet
                  case rel => exact ⟨by rw [decide_eq_false HN.out, Bool.false_and], rfl⟩
            case rest =>
              obtain ⟨rfl, hw⟩ := hcut
              subst hw
              cases hb : (decide (n = []) && prev) with
              | true =>
                have HE : Hid (Mk.checkF f names false = 4) := by
                  show _ = _
                  rw [HD2.out, if_pos]
                  rw [Bool.and_eq_true] at hb
                  exact ⟨of_decide_eq_true hb.1, hb.2⟩
                clear hb HD2
                go_wp2_with fail
                go_ret
                exact ⟨ret_int (by rw [HE.out]), BL2.out⟩
              | false =>
                have HD3 : Hid (Mk.checkF f names false = if Mk.checkF kk (names ++ [n]) false ≠ 0 then Mk.checkF kk (names ++ [n]) false else Mk.checkF (f.drop (k + 1)) names (decide (n = []))) := by
                  show _ = _
                  rw [HD2.out, if_neg]
                  rintro ⟨q1, q2⟩
                  rw [decide_eq_true q1, q2] at hb; cases hb
                clear hb HD2 HP HEN
                go_upto_region 9 with fail
                have hsz2 := BL2.out.size
                have hwz : wr.heap.size < w2.heap.size := Blk.lt PB2.out
                have hfr : ∀ W, Below w2.heap.size w2 W → W.cell? ⟨wr.heap.size, 0, none⟩ = some (.string (st n)) ∧ W.cell? ⟨wr.heap.size, 3, none⟩ = some (.slice aok kk.len capk) := fun W hW => ⟨(hW.cell (p := ⟨wr.heap.size, 0, none⟩) hwz).trans p0, (hW.cell (p := ⟨wr.heap.size, 3, none⟩) hwz).trans p3⟩
                have HFR := Lib.hid hfr
                have hcl : ∀ W, Below w2.heap.size w2 W → Calls Tryz.prog 78 #[vn] W fun e w' => ∃ v', e = .returned v' ∧ w'.ownsRow W.heap.size 9 1 v' names.length (strVs names) ∧ Below W.heap.size W w' := fun W hW => tr_Clone names vn K W (hvn.below hK (BL2.out.trans (hW.mono hsz2))) (by omega)
                have HCL := Lib.hid hcl
                have hrc : ∀ W v9, Below w2.heap.size w2 W → StrsV W (fun b => b < W.heap.size) v9 (names ++ [n]) → Calls Tryz.prog 45 #[.slice aok kk.len capk, v9] W fun e w' => e = .returned (.int .i64 (Mk.checkF kk (names ++ [n]) false)) ∧ Below W.heap.size W w' := by
                  intro W v9 hW hs9
                  have hb0 := BL2.out.trans (hW.mono hsz2)
                  exact ih kk (names ++ [n]) _ v9 (fun b => b < W.heap.size) W (by omega) (by rw [List.length_append, List.length_singleton]; omega) ((HVK.out.below hK hb0).frame (fun b hb => ⟨Nat.lt_of_lt_of_le (hK b hb) hb0.size, rfl⟩)) hs9 (fun _ h => h)
                have HRC := Lib.hid hrc
                generalize Mk.checkF kk (names ++ [n]) false = cr at HD3 HRC
                obtain ⟨i0, hi, hz0, hz1, hz2⟩ := info_parts Tryz.infoStr
                have hnl9 : names.length ≤ 33554432 := by omega
                clear hfr hcl hrc hdb hkb
                go_region_held3 (fun w' => w'.cell? ⟨wr.heap.size, 0, none⟩ = some (.string (st n)) ∧ w'.cell? ⟨wr.heap.size, 3, none⟩ = some (.slice aok kk.len capk)) (first
                  | exact HFR.out _ hB10
                  | exact HFR.out _ hB9
                  | exact HFR.out _ (hB7.alloc hB7.size _)
                  | exact HFR.out _ hB7
                  | exact HFR.out _ ((Below.refl _ _).drew)
                  | exact HFR.out _ (((Below.refl _ _).drew).alloc (Nat.le_refl _) _)) (first | (go_at_call 78; refine (HCL.out _ ?_).mono ?_; (first | exact (Below.refl _ _).drew | exact ((Below.refl _ _).drew).alloc (Nat.le_refl _) _); rintro e w7 ⟨v7, rfl, ow7, hb7⟩; have hB7 : Below w2.heap.size w2 w7 := (by first | exact ((Below.refl _ _).drew).trans (hb7.mono (Nat.le_refl _)) | exact (((Below.refl _ _).drew).alloc (Nat.le_refl _) _).trans (hb7.mono (by simp))); (try (have n0 : w7.cell? ⟨w2.heap.size, 0, none⟩ = some (.string (st n)) := (hb7.cell (p := ⟨w2.heap.size, 0, none⟩) (by simp)).trans (Blk.cell (Blk.new w2.drew 9 #[.string (st n)]) 0)))) | (refine wp_append_fresh_step rfl (.tmp 41) (.tmp 44) 54 rfl w2.drew.heap.size 9 i0 (.string ⟨#[]⟩) 1 16 Tryz.underlying54 hi hz0 hz1 hz2 rfl (by decide) v7 names.length (strVs names) (by simp [Act.eval, Act.put]) (own_ap' ow7 ((Ap.refl (fun _ => False) w7).alloc (.cells #[.string (st n)] 9)) (fun _ _ q => q)) ⟨w7.heap.size, 0, none⟩ 1 1 [.string (st n)] (by simp [Act.eval, Act.put]) rfl (cell_one_new _ _ _) (one_cell _ rfl) (by decide) (by unfold maxLen; omega) (by omega) (by have := hB7.size; simp; omega) ?_; intro v9 w9 hown9 hg9 hf9; have hB9 : Below w2.heap.size w2 w9 := ((hB7.alloc hB7.size (.cells #[.string (st n)] 9)).grown hg9 (by have := hB7.size; simp; omega) (fun k9 hk9 => (ow7.lt k9 hk9).1)); have SV9 : StrsV w9 (fun b => b < w9.heap.size) v9 (names ++ [n]) := StrsV.of_own (B := w2.heap.size) (e := 9) (by rw [List.length_append, show strVs (names ++ [n]) = strVs names ++ [.string (st n)] by simp [strVs]]; exact ⟨hown9.1, hown9.2.imp id (fun ⟨g9, c9, r9, h1, h2, h3⟩ => ⟨g9, c9, r9, h1, Nat.le_trans (Nat.le_refl _) h2, h3⟩)⟩) (fun g9 hg9' => (hown9.lt g9 hg9').2); obtain ⟨ao9, cap9, rfl⟩ := own_slice hown9) | (refine wp_append_fresh_step rfl (.tmp 41) (.tmp 44) 54 rfl (w2.drew.alloc (.cells #[.string (st n)] 9)).heap.size 9 i0 (.string ⟨#[]⟩) 1 16 Tryz.underlying54 hi hz0 hz1 hz2 rfl (by decide) v7 names.length (strVs names) (by simp [Act.eval, Act.put]) ow7 ⟨w2.heap.size, 0, none⟩ 1 1 [.string (st n)] (by simp [Act.eval, Act.put]) rfl (fun j9 u9 h9 => by have e9 : j9 = 0 := (by have q := (List.getElem?_eq_some_iff.1 h9).1; simp at q; exact q); subst e9; have h9' : Value.string (st n) = u9 := (by simpa using h9); rw [← h9']; exact n0) (one_cell _ rfl) (by decide) (by unfold maxLen; omega) (by omega) (by have := hb7.size; simpa using this) ?_; intro v9 w9 hown9 hg9 hf9; have hB9 : Below w2.heap.size w2 w9 := (hB7.grown hg9 hB7.size (fun k9 hk9 => Nat.le_trans (by simp) (ow7.lt k9 hk9).1)); have SV9 : StrsV w9 (fun b => b < w9.heap.size) v9 (names ++ [n]) := StrsV.of_own (B := w2.heap.size) (e := 9) (by rw [List.length_append, show strVs (names ++ [n]) = strVs names ++ [.string (st n)] by simp [strVs]]; exact ⟨hown9.1, hown9.2.imp id (fun ⟨g9, c9, r9, h1, h2, h3⟩ => ⟨g9, c9, r9, h1, Nat.le_trans (by simp) h2, h3⟩)⟩) (fun g9 hg9' => (hown9.lt g9 hg9').2); obtain ⟨ao9, cap9, rfl⟩ := own_slice hown9) | (go_at_call 45; refine (HRC.out _ _ hB9 SV9).mono ?_; rintro e w10 ⟨rfl, hb10⟩; have hB10 := hB9.trans (hb10.mono hB9.size)))
                all_goals
                  have BL10 := Lib.hid (BL2.out.trans (hB10.mono hsz2))
                  clear hB10 hB9 hB7 SV9 HRC HCL HFR
                  by_cases hr0 : cr = 0
                  · subst hr0
                    have HA4 : Hid (Mk.checkF f names false = Mk.checkF (f.drop (k + 1)) names (decide (n = []))) := by show _ = _; rw [HD3.out]; simp
                    clear HD3
                    go_wp2_with fail
                    go_roundw
                    case rel => exact ⟨k + 1, decide (n = []), by omega, by go_num, HA4, HP2, BL10⟩
                    case measure => simp [intOf]; omega
                  · have hr1 : (cr == 0) = false := beq_eq_false_iff_ne.2 hr0
                    go_wp2_with fail
                    go_ret
                    exact ⟨ret_int (by rw [HD3.out, if_pos hr0]), BL10.out⟩
          · have hc1 : (ce == 0) = false := beq_eq_false_iff_ne.2 hc0
            go_wp2_with fail
            go_ret
            exact ⟨ret_int (by rw [HD.out, if_pos hc0]), BL2.out⟩
        · have hke : k = f.len := by omega
          have HE : Hid (Mk.checkF f names false = 0) := by show _ = _; rw [HA.out, hke, Mk.Fo.drop_len]; rfl
          clear HA HAT
          go_wp2_with fail
          go_ret
          exact ⟨ret_int HE.out.symm, BL.out⟩
    · subst hnil
      subst hv1
      clear HAT
      go_enter Tryz.func45, Tryz.ntmps45
      go_wp2_with fail
      go_loopw [11] (fun i wr => i = .int .i64 0 ∧ wr = w) (fun _ _ => 0)
      case atStart => exact ⟨rfl, rfl⟩
      case round =>
        obtain ⟨rfl, rfl⟩ := hrel
        go_wp2_with fail
        go_ret
        exact ⟨rfl, Below.refl _ _⟩
end Go.Proofs.YteidgdpaolieaaaGreatDoor

/- Appending to an empty row of the call's own, inside a region that draws its order: from any slice, be it empty or not. -/
namespace Go.Proofs.YteidgdpaolieaaaGreatDoor
open Go.RowKit
theorem atCells_one (l : List Mk.At) : ∀ u ∈ atCells l, u.oneCell' = true := by
  intro u hu
  unfold atCells at hu
  rw [List.mem_flatMap] at hu
  obtain ⟨x, _, hx⟩ := hu
  simp at hx
  rcases hx with rfl | rfl <;> rfl
theorem blk_news {W : World} {q : Nat} {t : TypeId} {x : Value} (h : Blk W q t #[x]) : ∀ (j : Nat) (u : Value), [x][j]? = some u → W.cell? ((⟨q, 0, none⟩ : Addr).add j) = some u := by
  intro j u hu
  have e1 : (⟨q, 0, none⟩ : Addr).add j = ⟨q, 0 + j, none⟩ := by unfold Addr.add; split <;> simp_all
  rw [e1, Nat.zero_add, Blk.cell h j]
  simpa using hu
theorem addr_add (g o i : Nat) : (⟨g, o, none⟩ : Addr).add i = ⟨g, o + i, none⟩ := by unfold Addr.add; split <;> simp_all
theorem run_append_zero (W : World) (q : Nat) (ao : Option Addr) (c : Nat) : (Builtin.append_ #[50, 50] 50 #[.slice (some ⟨q, 0, none⟩) 0 0, .slice ao 0 c]).run Tryz.prog W = .ok (.slice (some ⟨q, 0, none⟩) 0 0) W := by
  cases ao <;> kernel_rfl
theorem run_append_zeroS (W : World) (q : Nat) (ao : Option Addr) (c : Nat) : (Builtin.append_ #[54, 54] 54 #[.slice (some ⟨q, 0, none⟩) 0 0, .slice ao 0 c]).run Tryz.prog W = .ok (.slice (some ⟨q, 0, none⟩) 0 0) W := by
  cases ao <;> kernel_rfl
theorem grownBy_refl (w : World) (r : Option Nat) : w.grownBy w r := ⟨rfl, rfl, rfl, Nat.le_refl _, fun _ _ _ => rfl⟩
theorem wp_append_row_step {P : Program} {w : World} {ops : Array Oper} {o : Oper} {a : Act} {K : Act → World → Prop} {Q : Exit → Act → World → Prop} {E : Prop} (hgd : o.guard = none) (s x : Operand) (t : TypeId)
    (ho : o.op = .call { callee := .builtin .append, args := #[s, x], argTypes := #[t, t] })
    (base : Nat) (e : TypeId) (i : TypeInfo) (z : Value) (size bytes : Nat) (ht : P.underlying t = some (.slice e)) (hi : P.info? e = some i) (hz : i.zero = some z)
    (hsize : i.size = size) (hby : i.bytes = bytes) (hzs : z.cells.size = size) (hsz : 0 < size)
    (q : Nat) (hs : a.eval s = .slice (some ⟨q, 0, none⟩) 0 0) (hown : w.ownsRow base e size (.slice (some ⟨q, 0, none⟩) 0 0) 0 [])
    (ao : Option Addr) (m c : Nat) (news : List Value) (hx : a.eval x = .slice ao m c) (hl : news.length = m * size) (hnews : m = 0 ∨ ∃ ad, ao = some ad ∧ ∀ j u, news[j]? = some u → w.cell? (ad.add j) = some u) (h1 : ∀ u ∈ news, u.oneCell' = true)
    (hr0 : (Builtin.append_ #[t, t] o.type #[.slice (some ⟨q, 0, none⟩) 0 0, .slice ao 0 c]).run P w = .ok (.slice (some ⟨q, 0, none⟩) 0 0) w) (h63 : m ≤ maxLen) (hbytes : m * bytes ≤ 140737488355328) (hbase : base ≤ w.heap.size)
    (h : ∀ v' w', w'.ownsRow base e size v' m news → w.grownBy w' (some q) → (v'.ownBlock = some q ∨ v'.ownBlock = some w.heap.size) → K (a.put o.dst v') w') :
    if Region.wanted o (yielded ops a.tmps) = true then Oper.wp P o a w K Q else E := by
  by_cases hm : m = 0
  · subst hm
    have hnil : news = [] := List.eq_nil_of_length_eq_zero (by rw [hl, Nat.zero_mul])
    subst hnil
    have hw : Region.wanted o (yielded ops a.tmps) = true := by simp [Region.wanted, hgd]
    rw [if_pos hw]
    have hfin := h _ w hown (grownBy_refl w _) (.inl rfl)
    unfold Oper.wp execOp
    simp only [ho, resolve, invoke, builtin, Sem.run_bind, Sem.run_pure, Result.andThen_ok, List.map_toArray, List.map_cons, List.map_nil, hs, hx, hr0]
    exact hfin
  · rcases hnews with hn | ⟨ad, rfl, hn⟩
    · exact absurd hn hm
    · exact wp_append_fresh_step hgd s x t ho base e i z size bytes ht hi hz hsize hby hzs hsz _ 0 [] hs hown ad m c news hx hl hn h1 (Nat.pos_of_ne_zero hm) (by rw [Nat.zero_add]; exact h63) (by rw [Nat.zero_add]; exact hbytes) hbase
        (fun v' w' k1 k2 k3 => h v' w' (by rw [Nat.zero_add, List.nil_append] at k1; exact k1) k2 k3)
theorem OwnF.more {w : World} {B : Nat} {K K' : Nat → Prop} {v : Value} {f : Mk.Fo} {xs : List Value} (h : OwnF w B K v f xs) (hk : ∀ b, K b → K' b) (hn : ∀ g, v.ownBlock = some g → ¬ K' g) (hl : ∀ b, K' b → b < w.heap.size) : OwnF w B K' v f xs :=
  ⟨h.own, h.cells.frame (fun b hb => ⟨hk b hb, rfl⟩), hn, hl⟩
theorem StrsV.of_row {w : World} {K : Nat → Prop} {B : Nat} {e : TypeId} {ao : Option Addr} {cap : Nat} {l : List (List UInt8)} {x : List UInt8} (h : w.ownsRow B e 1 (.slice ao (l.length + 1) cap) (l.length + 1) (strVs l ++ [.string (st x)])) (hK : ∀ g, (Value.slice ao (l.length + 1) cap).ownBlock = some g → K g) : StrsV w K (.slice ao (l.length + 1) cap) (l ++ [x]) := by
  have e1 : (l ++ [x]).length = l.length + 1 := by simp
  have e2 : strVs (l ++ [x]) = strVs l ++ [.string (st x)] := by simp [strVs]
  exact StrsV.of_own (e := e) (B := B) (by rw [e1, e2]; exact h) hK
end Go.Proofs.YteidgdpaolieaaaGreatDoor

/- The plain law of CleanText: of a forest that is right all text stays, but what is in elements that go. No program in sight. -/
namespace Mk
namespace Fo
/-- what a check makes sure of: texts hold nothing, elements have no text of their own, empty elements hold nothing. -/
def right : Fo → Prop
  | nil => True
  | node n _ t k r => (n = [] → k = nil) ∧ (n ≠ [] → t = []) ∧ (emptyB n = true → k = nil) ∧ right k ∧ right r
end Fo
open Fo

theorem check_right : ∀ f names prev, checkF f names prev = 0 → right f := by
  intro f
  induction f with
  | nil => intro _ _ _; trivial
  | node n a t k r ihk ihr =>
    intro names prev h
    unfold checkF at h
    by_cases h1 : nodeE names n a t k ≠ 0
    · rw [if_pos h1] at h; exact absurd h h1
    rw [if_neg h1] at h
    by_cases h2 : n = [] ∧ prev
    · rw [if_pos h2] at h; cases h
    rw [if_neg h2] at h
    by_cases h3 : checkF k (names ++ [n]) false ≠ 0
    · rw [if_pos h3] at h; exact absurd h h3
    rw [if_neg h3] at h
    have hk := ihk _ _ (by simpa using h3)
    have hr := ihr _ _ h
    have h1' : nodeE names n a t k = 0 := by simpa using h1
    unfold nodeE at h1'
    by_cases hn : n = []
    · rw [if_pos hn] at h1'
      by_cases hq : t = [] ∨ a ≠ [] ∨ k ≠ nil
      · rw [if_pos hq] at h1'; cases h1'
      · refine ⟨fun _ => ?_, fun h => absurd hn h, fun he => ?_, hk, hr⟩
        · exact Classical.byContradiction fun hc => hq (.inr (.inr hc))
        · rw [hn] at he; exact absurd he (by decide)
    · rw [if_neg hn] at h1'
      by_cases hq : t ≠ [] ∨ !isName n ∨ (emptyB n ∧ k ≠ nil)
      · rw [if_pos hq] at h1'; cases h1'
      · refine ⟨fun h => absurd h hn, fun _ => ?_, fun he => ?_, hk, hr⟩
        · exact Classical.byContradiction fun hc => hq (.inl hc)
        · exact Classical.byContradiction fun hc => hq (.inr (.inr ⟨he, hc⟩))
end Mk

/- The plain law of trees: what is clean is right, and cleaned again it is the same; a right tree built of its own tokens is the same; what is built is right. No program in sight. -/
namespace Mk
open Fo
namespace Fo
def depth : Fo → Nat | nil => 0 | node n _ _ k r => if n = [] then r.depth else max (k.depth + 1) r.depth
def count : Fo → Nat | nil => 0 | node _ _ _ k r => k.count + r.count + 1
def endsT : Fo → Bool | nil => false | node n _ _ _ nil => decide (n = []) | node _ _ _ _ (node m b u j r) => endsT (node m b u j r)
theorem app_nil : ∀ f : Fo, f.app nil = f
  | nil => rfl
  | node n a t k r => by show node n a t k (r.app nil) = _; rw [app_nil r]
theorem app_assoc : ∀ f g h : Fo, (f.app g).app h = f.app (g.app h)
  | nil, _, _ => rfl
  | node n a t k r, g, h => by show node n a t k ((r.app g).app h) = node n a t k (r.app (g.app h)); rw [app_assoc r g h]
theorem snoc_app (n : Bs) (a : List At) (t : Bs) (k : Fo) : ∀ f : Fo, ¬(n = [] ∧ endsT f = true) → snoc n a t k f = f.app (node n a t k nil)
  | nil, _ => rfl
  | node n' a' t' k' nil, h => by
    have h2 : ¬(n = [] ∧ n' = []) := fun e => h ⟨e.1, by simp [endsT, e.2]⟩
    unfold snoc
    rw [if_neg h2]
    rfl
  | node n' a' t' k' (node m b u j r), h => by
    have h2 := snoc_app n a t k (node m b u j r) h
    show node n' a' t' k' (snoc n a t k (node m b u j r)) = node n' a' t' k' _
    rw [h2]
theorem ends_app (n : Bs) (a : List At) (t : Bs) (k : Fo) : ∀ f : Fo, endsT (f.app (node n a t k nil)) = decide (n = [])
  | nil => rfl
  | node n' a' t' k' nil => rfl
  | node n' a' t' k' (node m b u j r) => ends_app n a t k (node m b u j r)
end Fo
/-! How many nodes, and how deep. -/
theorem size_to : ∀ (f : Fo) (m : Nat), right f → f.depth ≤ m → sizeF m f = (f.count, f.depth) := by
  intro f
  induction f with
  | nil => intro m _ _; cases m <;> rfl
  | node n a t k r ihk ihr =>
    intro m h hd
    obtain ⟨g1, g2, g3, g4, g5⟩ := h
    by_cases hn : n = []
    · have hk := g1 hn
      subst hk
      simp only [depth, hn, if_true] at hd
      have q := ihr m g5 hd
      cases m <;> simp [sizeF, hn, q, count, depth]
    · simp only [depth, hn, if_false] at hd
      cases m with
      | zero => omega
      | succ m =>
        have q := ihr (m + 1) g5 (by omega)
        have q2 := ihk m g4 (by omega)
        simp only [sizeF, hn, if_false, q, q2, count, depth]
        congr 1
        omega
theorem snoc_count (n : Bs) (a : List At) (t : Bs) (k : Fo) : ∀ f : Fo, (snoc n a t k f).count ≤ f.count + k.count + 1
  | nil => by simp [snoc, count]
  | node n' a' t' k' nil => by
    unfold snoc
    split
    · simp [count]; omega
    · simp [count]; omega
  | node n' a' t' k' (node m b u j r) => by
    have := snoc_count n a t k (node m b u j r)
    show k'.count + (snoc n a t k (node m b u j r)).count + 1 ≤ k'.count + (node m b u j r).count + 1 + k.count + 1
    omega
theorem snoc_depth (n : Bs) (a : List At) (t : Bs) (k : Fo) (D : Nat) (hk : n ≠ [] → k.depth + 1 ≤ D) : ∀ f : Fo, f.depth ≤ D → (snoc n a t k f).depth ≤ D
  | nil, _ => by
    by_cases hn : n = []
    · simp [snoc, depth, hn]
    · have := hk hn
      simp only [snoc, depth, hn, if_false]
      omega
  | node n' a' t' k' nil, h => by
    unfold snoc
    by_cases hn' : n' = []
    · by_cases hn : n = []
      · simp [hn, hn', depth]
      · have := hk hn
        simp only [hn, hn', false_and, if_false, depth, if_true]
        omega
    · simp only [hn', and_false, if_false, depth] at h ⊢
      by_cases hn : n = []
      · simp only [hn, if_true]
        exact h
      · have := hk hn
        simp only [hn, if_false]
        omega
  | node n' a' t' k' (node m b u j r), h => by
    show depth (node n' a' t' k' (snoc n a t k (node m b u j r))) ≤ D
    by_cases hn' : n' = []
    · have e : ∀ x, depth (node n' a' t' k' x) = x.depth := fun x => by simp [depth, hn']
      rw [e] at h ⊢
      exact snoc_depth n a t k D hk _ h
    · have e : ∀ x, depth (node n' a' t' k' x) = max (k'.depth + 1) x.depth := fun x => by simp [depth, hn']
      rw [e] at h ⊢
      have := snoc_depth n a t k D hk (node m b u j r) (by omega)
      omega
theorem node_depth {n : Bs} {a : List At} {t : Bs} {k r : Fo} {D : Nat} (h : (node n a t k r).depth ≤ D) : (n ≠ [] → k.depth + 1 ≤ D) ∧ r.depth ≤ D := by
  by_cases hn : n = []
  · simp only [depth, hn, if_true] at h
    exact ⟨fun q => absurd hn q, h⟩
  · simp only [depth, hn, if_false] at h
    exact ⟨fun _ => by omega, by omega⟩
theorem joins_depth (D : Nat) : ∀ g f : Fo, f.depth ≤ D → g.depth ≤ D → (joins f g).depth ≤ D := by
  intro g
  induction g with
  | nil => intro f h _; exact h
  | node n a t k r _ ih =>
    intro f h1 h2
    obtain ⟨q1, q2⟩ := node_depth h2
    exact ih _ (snoc_depth n a t k D q1 f h1) q2
theorem joins_count : ∀ g f : Fo, (joins f g).count ≤ f.count + g.count := by
  intro g
  induction g with
  | nil => intro f; exact Nat.le_refl _
  | node n a t k r _ ih =>
    intro f
    have h1 := ih (snoc n a t k f)
    have h2 := snoc_count n a t k f
    show (joins (snoc n a t k f) r).count ≤ f.count + (k.count + r.count + 1)
    omega
theorem cleanOn_size (base : Bs) (D : Nat) : ∀ f out : Fo, (cleanOn base out f).count ≤ out.count + f.count ∧ (out.depth ≤ D → f.depth ≤ D → (cleanOn base out f).depth ≤ D) := by
  intro f
  induction f generalizing D with
  | nil => intro out; exact ⟨Nat.le_refl _, fun h _ => h⟩
  | node n a t k r ihk ihr =>
    intro out
    unfold cleanOn
    by_cases hn : n = []
    · rw [if_pos hn]
      obtain ⟨r1, r2⟩ := ihr D (snoc n a t k out)
      have := snoc_count n a t k out
      refine ⟨by simp only [count]; omega, fun h1 h2 => ?_⟩
      obtain ⟨q1, q2⟩ := node_depth h2
      exact r2 (snoc_depth n a t k D q1 out h1) q2
    rw [if_neg hn]
    by_cases hg : goneB n = true
    · rw [if_pos hg]
      obtain ⟨r1, r2⟩ := ihr D out
      exact ⟨by simp only [count]; omega, fun h1 h2 => r2 h1 (node_depth h2).2⟩
    rw [if_neg hg]
    simp only
    obtain ⟨k1, _⟩ := ihk 0 nil
    by_cases hal : allowedB n = true
    · rw [if_neg (by simp [hal])]
      by_cases hi : n = [105, 109, 103] ∧ hasAt (cleanAts base n a) [115, 114, 99] = false
      · rw [if_pos hi]
        obtain ⟨r1, r2⟩ := ihr D out
        exact ⟨by simp only [count]; omega, fun h1 h2 => r2 h1 (node_depth h2).2⟩
      · rw [if_neg hi]
        obtain ⟨r1, r2⟩ := ihr D (snoc n (cleanAts base n a) [] (cleanOn base nil k) out)
        have := snoc_count n (cleanAts base n a) [] (cleanOn base nil k) out
        refine ⟨by simp only [count] at k1 ⊢; omega, fun h1 h2 => ?_⟩
        obtain ⟨q1, q2⟩ := node_depth h2
        refine r2 (snoc_depth n _ [] _ D (fun h => ?_) out h1) q2
        have q3 := q1 h
        have := (ihk (D - 1) nil).2 (Nat.zero_le _) (by omega)
        omega
    · rw [if_pos (by simpa using hal)]
      obtain ⟨r1, r2⟩ := ihr D (joins out (cleanOn base nil k))
      have := joins_count (cleanOn base nil k) out
      refine ⟨by simp only [count] at k1 ⊢; omega, fun h1 h2 => ?_⟩
      obtain ⟨q1, q2⟩ := node_depth h2
      exact r2 (joins_depth D _ out h1 ((ihk D nil).2 (Nat.zero_le _) (by have := q1 hn; omega))) q2
/-! What is right. -/
theorem checkF_node (n : Bs) (a : List At) (t : Bs) (k r : Fo) (names : List Bs) (prev : Bool) : checkF (node n a t k r) names prev = 0 ↔ nodeE names n a t k = 0 ∧ ¬(n = [] ∧ prev = true) ∧ checkF k (names ++ [n]) false = 0 ∧ checkF r names (decide (n = [])) = 0 := by
  rw [checkF]
  by_cases h1 : nodeE names n a t k = 0
  · rw [if_neg (by simpa using h1)]
    by_cases h2 : n = [] ∧ prev = true
    · rw [if_pos h2]
      exact ⟨fun h => (by cases h), fun h => absurd h2 h.2.1⟩
    · rw [if_neg h2]
      by_cases h3 : checkF k (names ++ [n]) false = 0
      · rw [if_neg (by simpa using h3)]
        exact ⟨fun h => ⟨h1, h2, h3, h⟩, fun h => h.2.2.2⟩
      · rw [if_pos h3]
        exact ⟨fun h => absurd h h3, fun h => absurd h.2.2.1 h3⟩
  · rw [if_pos h1]
    exact ⟨fun h => absurd h h1, fun h => absurd h.1 h1⟩
theorem nodeE_text (names : List Bs) (a : List At) (t : Bs) (k : Fo) : nodeE names [] a t k = 0 ↔ t ≠ [] ∧ a = [] ∧ k = nil := by
  unfold nodeE
  rw [if_pos rfl]
  by_cases h : t = [] ∨ a ≠ [] ∨ k ≠ nil
  · rw [if_pos h]
    refine ⟨fun e => (by cases e), fun e => ?_⟩
    rcases h with h | h | h
    · exact absurd h e.1
    · exact absurd e.2.1 h
    · exact absurd e.2.2 h
  · rw [if_neg h]
    refine ⟨fun _ => ⟨fun e => h (.inl e), Classical.byContradiction fun e => h (.inr (.inl e)), Classical.byContradiction fun e => h (.inr (.inr e))⟩, fun _ => rfl⟩
theorem nodeE_el (names : List Bs) (n : Bs) (hn : n ≠ []) (a : List At) (t : Bs) (k : Fo) : nodeE names n a t k = 0 ↔ t = [] ∧ isName n = true ∧ (emptyB n = true → k = nil) ∧ checkAts isName [] a = 0 ∧ names.length ≤ stays names n := by
  unfold nodeE
  rw [if_neg hn]
  by_cases h : t ≠ [] ∨ (!isName n) = true ∨ (emptyB n = true ∧ k ≠ nil)
  · rw [if_pos h]
    refine ⟨fun e => (by cases e), fun e => ?_⟩
    rcases h with h | h | h
    · exact absurd e.1 h
    · rw [e.2.1] at h; cases h
    · exact absurd (e.2.2.1 h.1) h.2
  · rw [if_neg h]
    have f1 : t = [] := Classical.byContradiction fun e => h (.inl e)
    have f2 : isName n = true := by
      cases q : isName n with
      | true => rfl
      | false => exact absurd (.inr (.inl (by rw [q]; rfl))) h
    have f3 : emptyB n = true → k = nil := fun q => Classical.byContradiction fun e => h (.inr (.inr ⟨q, e⟩))
    by_cases h4 : checkAts isName [] a = 0
    · rw [if_neg (by simpa using h4)]
      by_cases h5 : stays names n < names.length
      · rw [if_pos h5]
        exact ⟨fun e => (by cases e), fun e => absurd h5 (Nat.not_lt.2 e.2.2.2.2)⟩
      · rw [if_neg h5]
        exact ⟨fun _ => ⟨f1, f2, f3, h4, Nat.not_lt.1 h5⟩, fun _ => rfl⟩
    · rw [if_pos h4]
      exact ⟨fun e => absurd e h4, fun e => absurd e.2.2.2.1 h4⟩
theorem snoc_check (names : List Bs) (n : Bs) (a : List At) (t : Bs) (k : Fo) (hn : nodeE names n a t k = 0) (hk : checkF k (names ++ [n]) false = 0) : ∀ (f : Fo) (prev : Bool), checkF f names prev = 0 → (f = nil → ¬(n = [] ∧ prev = true)) → checkF (snoc n a t k f) names prev = 0
  | nil, prev, _, h2 => (checkF_node n a t k nil names prev).2 ⟨hn, h2 rfl, hk, rfl⟩
  | node n' a' t' k' nil, prev, h, _ => by
    obtain ⟨g1, g2, g3, g4⟩ := (checkF_node ..).1 h
    unfold snoc
    split
    · rename_i e
      obtain ⟨e1, e2⟩ := e
      subst e2
      obtain ⟨q1, q2, q3⟩ := (nodeE_text ..).1 g1
      exact (checkF_node ..).2 ⟨(nodeE_text ..).2 ⟨by simp [q1], q2, q3⟩, g2, g3, rfl⟩
    · rename_i e
      refine (checkF_node ..).2 ⟨g1, g2, g3, (checkF_node ..).2 ⟨hn, fun q => e ⟨q.1, by simpa using q.2⟩, hk, rfl⟩⟩
  | node n' a' t' k' (node m b u j r), prev, h, _ => by
    obtain ⟨g1, g2, g3, g4⟩ := (checkF_node ..).1 h
    exact (checkF_node ..).2 ⟨g1, g2, g3, snoc_check names n a t k hn hk (node m b u j r) _ g4 (fun e => by cases e)⟩
theorem joins_check (names : List Bs) : ∀ (g : Fo) (p : Bool) (f : Fo), checkF f names false = 0 → checkF g names p = 0 → checkF (joins f g) names false = 0 := by
  intro g
  induction g with
  | nil => intro p f h _; exact h
  | node n a t k r _ ih =>
    intro p f h1 h2
    obtain ⟨g1, g2, g3, g4⟩ := (checkF_node ..).1 h2
    exact ih _ _ (snoc_check names n a t k g1 g3 f false h1 (fun _ q => by cases q.2)) g4
/-- names ahead of the innermost of a name. -/
def findR (x : Bs) (q : Bs → Bool) : List Bs → Option (List Bs)
  | [] => none
  | n :: r => if n = x then some r else if q n then none else findR x q r
theorem aboveR_find (x : Bs) (q : Bs → Bool) : ∀ l, aboveR x q l = (findR x q l).map List.length
  | [] => rfl
  | n :: r => by
    unfold aboveR findR
    by_cases h : n = x
    · rw [if_pos h, if_pos h]; rfl
    · rw [if_neg h, if_neg h]
      by_cases h2 : q n = true
      · rw [if_pos h2, if_pos h2]; rfl
      · rw [if_neg h2, if_neg h2]; exact aboveR_find x q r
theorem findR_suf (x : Bs) (q : Bs → Bool) : ∀ l r, findR x q l = some r → ∃ m, l = m ++ x :: r
  | [], _, h => by cases h
  | n :: l, r, h => by
    unfold findR at h
    by_cases h1 : n = x
    · rw [if_pos h1] at h
      injection h with h
      exact ⟨[], by rw [h1, h]; rfl⟩
    · rw [if_neg h1] at h
      by_cases h2 : q n = true
      · rw [if_pos h2] at h; cases h
      · rw [if_neg h2] at h
        obtain ⟨m, e⟩ := findR_suf x q l r h
        exact ⟨n :: m, by rw [e]; rfl⟩
theorem cutTo_find (x : Bs) (q : Bs → Bool) (l : List Bs) : cutTo l.reverse (above x q l.reverse) = ((findR x q l).getD l).reverse := by
  unfold above
  rw [List.reverse_reverse, aboveR_find]
  cases h : findR x q l with
  | none => rfl
  | some r =>
    obtain ⟨m, e⟩ := findR_suf x q l r h
    show l.reverse.take r.length = r.reverse
    rw [e]
    simp
def li : Bs := [108, 105]
def staysR (l : List Bs) (n : Bs) : List Bs :=
  let l1 := if blockB n then (findR [112] wallB l).getD l else l
  if n == li then (findR li listB l1).getD l1 else l1
theorem stays_R (l : List Bs) (n : Bs) : stays l.reverse n = (staysR l n).length := by
  unfold stays staysR
  simp only
  have e : (if blockB n = true then cutTo l.reverse (above [112] wallB l.reverse) else l.reverse) = (if blockB n = true then (findR [112] wallB l).getD l else l).reverse := by
    by_cases h : blockB n = true
    · rw [if_pos h, if_pos h, cutTo_find]
    · rw [if_neg h, if_neg h]
  rw [e]
  generalize (if blockB n = true then (findR [112] wallB l).getD l else l) = l1
  show (if (n == li) = true then cutTo l1.reverse (above li listB l1.reverse) else l1.reverse).length = _
  by_cases h : (n == li) = true
  · rw [if_pos h, if_pos h, cutTo_find, List.length_reverse]
  · rw [if_neg h, if_neg h, List.length_reverse]
/-- names that let one in. -/
def Fine (l : List Bs) (n : Bs) : Prop := (blockB n = true → findR [112] wallB l = none) ∧ (n = li → findR li listB l = none)
theorem fine_stays {l : List Bs} {n : Bs} (h : Fine l n) : staysR l n = l := by
  unfold staysR
  have e : (if blockB n = true then (findR [112] wallB l).getD l else l) = l := by
    by_cases q : blockB n = true
    · rw [if_pos q, h.1 q]; rfl
    · rw [if_neg q]
  simp only [e]
  by_cases q : (n == li) = true
  · rw [if_pos q, h.2 (by simpa using q)]; rfl
  · rw [if_neg q]
theorem find_len (x : Bs) (q : Bs → Bool) (l : List Bs) : ((findR x q l).getD l).length ≤ l.length ∧ (findR x q l ≠ none → ((findR x q l).getD l).length < l.length) := by
  cases h : findR x q l with
  | none => exact ⟨Nat.le_refl _, fun q => absurd rfl q⟩
  | some r =>
    obtain ⟨m, e⟩ := findR_suf x q l r h
    have : r.length < l.length := by rw [e]; simp; omega
    exact ⟨Nat.le_of_lt this, fun _ => this⟩
theorem stays_fine {l : List Bs} {n : Bs} (h : l.length ≤ (staysR l n).length) : Fine l n := by
  have hl : ∀ l1 : List Bs, (if (n == li) = true then (findR li listB l1).getD l1 else l1).length ≤ l1.length := fun l1 => by
    split
    · exact (find_len ..).1
    · exact Nat.le_refl _
  have h1 : blockB n = true → findR [112] wallB l = none := fun q => Classical.byContradiction fun c => by
    have f := (find_len [112] wallB l).2 c
    unfold staysR at h
    simp only [q, if_true] at h
    have := hl ((findR [112] wallB l).getD l)
    omega
  refine ⟨h1, fun q => Classical.byContradiction fun c => ?_⟩
  have hb : blockB n = true := by rw [q]; decide
  have f := (find_len li listB l).2 c
  unfold staysR at h
  simp only [hb, if_true, h1 hb, Option.getD_none] at h
  rw [if_pos (by simpa using q)] at h
  omega
theorem findR_filter (x : Bs) (q p : Bs → Bool) (h1 : p x = true) (h2 : ∀ n, q n = true → p n = true) : ∀ l, findR x q l = none → findR x q (l.filter p) = none
  | [], _ => rfl
  | n :: r, h => by
    unfold findR at h
    by_cases e : n = x
    · rw [if_pos e] at h; cases h
    rw [if_neg e] at h
    by_cases e2 : q n = true
    · rw [List.filter_cons_of_pos (h2 n e2)]
      unfold findR
      rw [if_neg e, if_pos e2]
    · rw [if_neg e2] at h
      by_cases e3 : p n = true
      · rw [List.filter_cons_of_pos e3]
        unfold findR
        rw [if_neg e, if_neg e2]
        exact findR_filter x q p h1 h2 r h
      · rw [List.filter_cons_of_neg e3]
        exact findR_filter x q p h1 h2 r h
theorem list_ok (n : Bs) (h : listB n = true) : allowedB n = true := by
  unfold listB at h
  rcases Bool.or_eq_true_iff.1 h with q | q <;> · rw [eq_of_beq q]; decide
theorem wall_ok (n : Bs) (h : wallB n = true) : allowedB n = true := by
  unfold wallB at h
  rcases Bool.or_eq_true_iff.1 h with q | q
  · rcases Bool.or_eq_true_iff.1 q with q | q
    · exact list_ok n q
    · rw [eq_of_beq q]; decide
  · rw [eq_of_beq q]; decide
def thin (l : List Bs) : List Bs := l.filter allowedB
theorem fine_thin {l : List Bs} {n : Bs} (h : Fine l n) : Fine (thin l) n := ⟨fun q => findR_filter _ _ _ (by decide) wall_ok l (h.1 q), fun q => findR_filter _ _ _ (by decide) list_ok l (h.2 q)⟩
theorem stays_thin (l : List Bs) (n : Bs) (h : l.length ≤ stays l n) : (thin l).length ≤ stays (thin l) n := by
  have e : l = l.reverse.reverse := by simp
  have e2 : thin l = (thin l.reverse).reverse := by unfold thin; rw [List.filter_reverse, List.reverse_reverse]
  rw [e, stays_R, List.length_reverse] at h
  have hf := fine_thin (stays_fine (l := l.reverse) (n := n) (by simpa using h))
  rw [e2, stays_R, fine_stays hf, List.length_reverse]
  exact Nat.le_refl _
theorem hasAt_app (l : List At) (a : At) (n : Bs) : hasAt (l ++ [a]) n = (hasAt l n || a.n == n) := by simp [hasAt]
theorem checkAts_cons (seen : List At) (a : At) (r : List At) : checkAts isName seen (a :: r) = 0 ↔ isName a.n = true ∧ hasAt seen a.n = false ∧ checkAts isName (seen ++ [a]) r = 0 := by
  rw [checkAts]
  cases h1 : isName a.n with
  | false => simp
  | true =>
    cases h2 : hasAt seen a.n with
    | true => simp
    | false => simp
theorem cleanAt_one (base e : Bs) (a : At) : cleanAt base e a = [] ∨ ∃ v, cleanAt base e a = [⟨a.n, v⟩] := by
  unfold cleanAt
  split
  · exact .inl rfl
  · split
    · split
      · exact .inr ⟨_, rfl⟩
      · exact .inl rfl
    · exact .inr ⟨a.v, rfl⟩
theorem checkAts_clean (base e : Bs) : ∀ (l seen seen' : List At), (∀ n, hasAt seen' n = true → hasAt seen n = true) → checkAts isName seen l = 0 → checkAts isName seen' (l.flatMap (cleanAt base e)) = 0
  | [], _, _, _, _ => rfl
  | a :: r, seen, seen', hs, h => by
    obtain ⟨h1, h2, h3⟩ := (checkAts_cons ..).1 h
    rw [List.flatMap_cons]
    rcases cleanAt_one base e a with q | ⟨v, q⟩
    · rw [q, List.nil_append]
      exact checkAts_clean base e r (seen ++ [a]) seen' (fun n hn => by rw [hasAt_app, hs n hn]; rfl) h3
    · rw [q]
      show checkAts isName seen' (⟨a.n, v⟩ :: r.flatMap (cleanAt base e)) = 0
      refine (checkAts_cons ..).2 ⟨h1, ?_, ?_⟩
      · cases q2 : hasAt seen' a.n with
        | false => rfl
        | true => rw [hs _ q2] at h2; cases h2
      · refine checkAts_clean base e r (seen ++ [a]) _ (fun n hn => ?_) h3
        rw [hasAt_app] at hn ⊢
        rcases Bool.or_eq_true_iff.1 hn with q2 | q2
        · rw [hs n q2]; rfl
        · rw [show (a.n == n) = true from q2, Bool.or_true]
theorem thin_app (l : List Bs) (n : Bs) : thin (l ++ [n]) = if allowedB n = true then thin l ++ [n] else thin l := by
  unfold thin
  rw [List.filter_append]
  by_cases h : allowedB n = true
  · rw [if_pos h]; simp [h]
  · rw [if_neg h]; simp [h]
theorem cleanOn_check (base : Bs) : ∀ (f : Fo) (names : List Bs) (prev : Bool) (out : Fo), checkF f names prev = 0 → checkF out (thin names) false = 0 → checkF (cleanOn base out f) (thin names) false = 0 := by
  intro f
  induction f with
  | nil => intro _ _ out _ h; exact h
  | node n a t k r ihk ihr =>
    intro names prev out h ho
    obtain ⟨g1, g2, g3, g4⟩ := (checkF_node ..).1 h
    unfold cleanOn
    by_cases hn : n = []
    · rw [if_pos hn]
      subst hn
      obtain ⟨q1, q2, q3⟩ := (nodeE_text ..).1 g1
      subst q3
      exact ihr names _ _ g4 (snoc_check (thin names) [] a t nil ((nodeE_text ..).2 ⟨q1, q2, rfl⟩) rfl out false ho (fun _ q => by cases q.2))
    rw [if_neg hn]
    by_cases hg : goneB n = true
    · rw [if_pos hg]
      exact ihr names _ _ g4 ho
    rw [if_neg hg]
    simp only
    obtain ⟨e1, e2, e3, e4, e5⟩ := (nodeE_el _ _ hn _ _ _).1 g1
    have hk := ihk (names ++ [n]) false nil g3 rfl
    rw [thin_app] at hk
    by_cases hal : allowedB n = true
    · rw [if_neg (by simp [hal])]
      rw [if_pos hal] at hk
      by_cases hi : n = [105, 109, 103] ∧ hasAt (cleanAts base n a) [115, 114, 99] = false
      · rw [if_pos hi]
        exact ihr names _ _ g4 ho
      · rw [if_neg hi]
        refine ihr names _ _ g4 (snoc_check (thin names) n _ [] _ ((nodeE_el _ _ hn _ _ _).2 ⟨rfl, e2, fun q => by rw [e3 q]; rfl, checkAts_clean base n a [] [] (fun _ q => q) e4, stays_thin names n e5⟩) hk out false ho (fun _ q => hn q.1))
    · rw [if_pos (by simpa using hal)]
      rw [if_neg hal] at hk
      exact ihr names _ _ g4 (joins_check _ _ _ out ho hk)
theorem clean_check (base : Bs) (f : Fo) (h : checkF f [] false = 0) : checkF (clean base f) [] false = 0 := cleanOn_check base f [] false nil h rfl
theorem clean_depth (base : Bs) (f : Fo) (D : Nat) (h : f.depth ≤ D) : (clean base f).depth ≤ D := (cleanOn_size base D f nil).2 (Nat.zero_le _) h
/-! What is clean stays so. -/
theorem light_light (base v : Bs) : light base (light base v) = light base v := by
  have q : ∀ x, light base x = if 3000 < base.length ∨ 3000 < x.length ∨ Mg.schOf base = 0 then x else match Mg.res base x with | none => x | some t => t := fun _ => rfl
  by_cases h : 3000 < base.length ∨ 3000 < v.length ∨ Mg.schOf base = 0
  · have e : light base v = v := by rw [q, if_pos h]
    rw [e, e]
  · cases h2 : Mg.res base v with
    | none =>
      have e : light base v = v := by rw [q, if_neg h, h2]
      rw [e, e]
    | some t =>
      have e : light base v = t := by rw [q, if_neg h, h2]
      rw [e, q]
      split
      · rfl
      · rw [(Mg.res_again base v t h2).2]
theorem cleanAts_again (b base e : Bs) (h : ∀ v, light b (light base v) = light base v) : ∀ l : List At, cleanAts b e (cleanAts base e l) = cleanAts base e l
  | [] => rfl
  | a :: r => by
    have ih := cleanAts_again b base e h r
    have e1 : ∀ x, cleanAts x e (a :: r) = cleanAt x e a ++ cleanAts x e r := fun _ => List.flatMap_cons ..
    have e2 : cleanAts b e (cleanAt base e a) = cleanAt base e a := by
      unfold cleanAt
      split
      · rfl
      · rename_i hm
        split
        · rename_i hl
          split
          · rename_i hg
            show cleanAt b e ⟨a.n, light base a.v⟩ ++ [] = _
            unfold cleanAt
            rw [if_neg hm, if_pos hl]
            simp only [h]
            rw [if_pos hg]
            rfl
          · rfl
        · rename_i hl
          show cleanAt b e a ++ [] = _
          unfold cleanAt
          rw [if_neg hm, if_neg hl]
          rfl
    have e3 : ∀ x y : List At, cleanAts b e (x ++ y) = cleanAts b e x ++ cleanAts b e y := fun x y => List.flatMap_append ..
    rw [e1, e3, e2, ih]
/-- what a base leaves as it is. -/
def Stable (base : Bs) : Fo → Prop
  | nil => True
  | node n a t k r => (n ≠ [] → goneB n = false ∧ allowedB n = true ∧ t = [] ∧ cleanAts base n a = a ∧ ¬(n = [105, 109, 103] ∧ hasAt a [115, 114, 99] = false)) ∧ Stable base k ∧ Stable base r
theorem snoc_stable (b n : Bs) (a : List At) (t : Bs) (k : Fo) (h : n ≠ [] → goneB n = false ∧ allowedB n = true ∧ t = [] ∧ cleanAts b n a = a ∧ ¬(n = [105, 109, 103] ∧ hasAt a [115, 114, 99] = false)) (hk : Stable b k) : ∀ f, Stable b f → Stable b (snoc n a t k f)
  | nil, _ => ⟨h, hk, trivial⟩
  | node n' a' t' k' nil, hf => by
    obtain ⟨g1, g2, g3⟩ := hf
    unfold snoc
    split
    · rename_i e
      exact ⟨fun q => absurd e.2 q, g2, trivial⟩
    · exact ⟨g1, g2, h, hk, trivial⟩
  | node n' a' t' k' (node m c u j r), hf => by
    obtain ⟨g1, g2, g3⟩ := hf
    exact ⟨g1, g2, snoc_stable b n a t k h hk (node m c u j r) g3⟩
theorem joins_stable (b : Bs) : ∀ g f, Stable b f → Stable b g → Stable b (joins f g) := by
  intro g
  induction g with
  | nil => intro f h _; exact h
  | node n a t k r _ ih =>
    intro f h1 h2
    obtain ⟨g1, g2, g3⟩ := h2
    exact ih _ (snoc_stable b n a t k g1 g2 f h1) g3
theorem cleanOn_stable (b base : Bs) (h : ∀ v, light b (light base v) = light base v) : ∀ (f out : Fo), right f → Stable b out → Stable b (cleanOn base out f) := by
  intro f
  induction f with
  | nil => intro out _ ho; exact ho
  | node n a t k r ihk ihr =>
    intro out hf ho
    obtain ⟨g1, g2, g3, g4, g5⟩ := hf
    have hk := ihk nil g4 trivial
    unfold cleanOn
    by_cases hn : n = []
    · rw [if_pos hn]
      rw [g1 hn]
      exact ihr _ g5 (snoc_stable b n a t nil (fun q => absurd hn q) trivial out ho)
    rw [if_neg hn]
    by_cases hg : goneB n = true
    · rw [if_pos hg]
      exact ihr _ g5 ho
    rw [if_neg hg]
    simp only
    by_cases hal : allowedB n = true
    · rw [if_neg (by simp [hal])]
      by_cases hi : n = [105, 109, 103] ∧ hasAt (cleanAts base n a) [115, 114, 99] = false
      · rw [if_pos hi]
        exact ihr _ g5 ho
      · rw [if_neg hi]
        exact ihr _ g5 (snoc_stable b n _ [] _ (fun _ => ⟨by simpa using hg, hal, rfl, cleanAts_again b base n h a, hi⟩) hk out ho)
    · rw [if_pos (by simpa using hal)]
      exact ihr _ g5 (joins_stable b _ out ho hk)
/-! What is clean is safe. -/
theorem bad_clean (base e : Bs) : ∀ l : List At, badAts e (cleanAts base e l) = false
  | [] => rfl
  | a :: r => by
    have ih := bad_clean base e r
    have e1 : cleanAts base e (a :: r) = cleanAt base e a ++ cleanAts base e r := List.flatMap_cons ..
    have e2 : badAts e (cleanAt base e a) = false := by
      unfold cleanAt
      split
      · rfl
      · rename_i hm
        have hm' : mayB e a.n = true := by simpa using hm
        split
        · rename_i hl
          split
          · rename_i hg
            simp [badAts, hm', hl, hg]
          · rfl
        · rename_i hl
          have hl' : linkB a.n = false := by simpa using hl
          simp [badAts, hm', hl']
    rw [e1]
    unfold badAts at e2 ih ⊢
    rw [List.any_append, e2, ih]
    rfl
theorem stable_safe (b : Bs) : ∀ f, Stable b f → safeF f = true
  | nil, _ => rfl
  | node n a t k r, h => by
    obtain ⟨g1, g2, g3⟩ := h
    have hk := stable_safe b k g2
    have hr := stable_safe b r g3
    unfold safeF
    rw [hk, hr]
    by_cases hn : n = []
    · simp [hn]
    · obtain ⟨q1, q2, q3, q4, q5⟩ := g1 hn
      have hb := bad_clean b n a
      rw [q4] at hb
      have h5 : (decide (n = [105, 109, 103]) && !hasAt a [115, 114, 99]) = false := by
        by_cases e : n = [105, 109, 103]
        · cases e2 : hasAt a [115, 114, 99] with
          | true => simp
          | false => exact absurd ⟨e, e2⟩ q5
        · simp [e]
      rw [q2, hb, h5]
      simp
theorem clean_safe (base : Bs) (f : Fo) (hf : right f) : safeF (clean base f) = true := stable_safe base _ (cleanOn_stable base base (light_light base) f nil hf trivial)
end Mk

/- The plain law of the builder: what is built is right; a right tree built of its own tokens is the same. No program in sight. -/
namespace Mk
open Fo
namespace Bld
def R (root : Fo) (ops : List Op) : Bld := ⟨root, ops.reverse⟩
def rs (root : Fo) (ops : List Op) (g : Fo) : Fo := match ops with | [] => g | _ :: _ => root
def os (ops : List Op) (g : Fo) : List Op := match ops with | [] => [] | o :: r => { o with kids := g } :: r
def cur (root : Fo) (ops : List Op) : Fo := match ops with | [] => root | o :: _ => o.kids
def nmOf (ops : List Op) : List Bs := (ops.map (·.name)).reverse
theorem cur_set (root : Fo) (ops : List Op) (g : Fo) : cur (rs root ops g) (os ops g) = g := by cases ops <;> rfl
theorem nm_set (ops : List Op) (g : Fo) : nmOf (os ops g) = nmOf ops := by cases ops <;> rfl
theorem len_set (ops : List Op) (g : Fo) : (os ops g).length = ops.length := by cases ops <;> rfl
theorem rs_set (root : Fo) (ops : List Op) (g h : Fo) : rs (rs root ops g) (os ops g) h = rs root ops h := by cases ops <;> rfl
theorem os_set (ops : List Op) (g h : Fo) : os (os ops g) h = os ops h := by cases ops <;> rfl
theorem putIn_R (root : Fo) (ops : List Op) (n : Bs) (a : List At) (t : Bs) (k : Fo) : (R root ops).putIn n a t k = R (rs root ops (snoc n a t k (cur root ops))) (os ops (snoc n a t k (cur root ops))) := by
  cases ops with
  | nil => rfl
  | cons o r => simp [putIn, R, rs, os, cur]
theorem pop_R (root : Fo) (o : Op) (r : List Op) : (R root (o :: r)).pop = (R root r).putIn o.name o.ats [] o.kids := by simp [pop, R]
theorem names_R (root : Fo) (ops : List Op) : (R root ops).names = nmOf ops := by simp [names, R, nmOf]
theorem open_R (root : Fo) (ops : List Op) : (R root ops).open_.length = ops.length := by simp [R]
theorem nm_len (ops : List Op) : (nmOf ops).length = ops.length := by simp [nmOf]
theorem nm_cons (o : Op) (r : List Op) : nmOf (o :: r) = nmOf r ++ [o.name] := by simp [nmOf]
theorem push_R (root : Fo) (ops : List Op) (o : Op) : ({ R root ops with open_ := (R root ops).open_ ++ [o] } : Bld) = R root (o :: ops) := by simp [R]
/-- a right tree, told by its tokens, stands behind what is there. -/
theorem fold_flat : ∀ (f root : Fo) (ops : List Op), checkF f (nmOf ops) (endsT (cur root ops)) = 0 → ops.length + f.depth ≤ 8 → (flat f).foldl token (R root ops) = R (rs root ops ((cur root ops).app f)) (os ops ((cur root ops).app f)) := by
  intro f
  induction f with
  | nil =>
    intro root ops _ _
    rw [Fo.app_nil]
    cases ops <;> rfl
  | node n a t k r ihk ihr =>
    intro root ops hc hd
    obtain ⟨c1, c2, c3, c4⟩ := (checkF_node ..).1 hc
    have hsn : snoc n a t k (cur root ops) = (cur root ops).app (node n a t k nil) := snoc_app n a t k _ c2
    have hd2 := node_depth (D := 8 - ops.length) (n := n) (a := a) (t := t) (k := k) (r := r) (by omega)
    obtain ⟨d1, d2⟩ := hd2
    have hd3 : n ≠ [] → ops.length < 8 := fun q => by have := d1 q; omega
    have hrest : (flat r).foldl token ((R root ops).putIn n a t k) = R (rs root ops ((cur root ops).app (node n a t k r))) (os ops ((cur root ops).app (node n a t k r))) := by
      rw [putIn_R, hsn]
      have h := ihr (rs root ops ((cur root ops).app (node n a t k nil))) (os ops ((cur root ops).app (node n a t k nil)))
      rw [cur_set, nm_set, len_set, rs_set, os_set, ends_app, Fo.app_assoc] at h
      refine h c4 ?_
      by_cases hn : n = []
      · simp only [Fo.depth, hn, if_true] at hd
        exact hd
      · have := hd3 hn
        omega
    by_cases hn : n = []
    · subst hn
      obtain ⟨q1, q2, q3⟩ := (nodeE_text ..).1 c1
      subst q2
      subst q3
      exact hrest
    · obtain ⟨e1, e2, e3, e4, e5⟩ := (nodeE_el _ _ hn _ _ _).1 c1
      subst e1
      have hop := d1 hn
      have hs : stays (nmOf ops) n = ops.length := by
        have h1 : stays (nmOf ops) n ≤ (nmOf ops).length := by
          have := stays_R (ops.map (·.name)) n
          rw [show nmOf ops = (ops.map (·.name)).reverse from rfl, this, List.length_reverse]
          unfold staysR
          simp only
          have hl : ∀ l1 : List Bs, (if (n == li) = true then (findR li listB l1).getD l1 else l1).length ≤ l1.length := fun l1 => by
            split
            · exact (find_len ..).1
            · exact Nat.le_refl _
          refine Nat.le_trans (hl _) ?_
          split
          · exact (find_len ..).1
          · exact Nat.le_refl _
        rw [nm_len] at h1 e5
        exact Nat.le_antisymm h1 e5
      have hclose : (R root ops).close (stays (R root ops).names n) = R root ops := by
        unfold close
        rw [names_R, hs, open_R, Nat.sub_self]
        rfl
      have h8 : ¬ (R root ops).open_.length = 8 := by rw [open_R]; have := hd3 hn; omega
      have hopen : (R root ops).token ⟨2, n, a, []⟩ = if emptyB n = true then (R root ops).putIn n a [] nil else R root (⟨n, a, nil⟩ :: ops) := by
        unfold token
        rw [if_neg (by simp), if_pos (by simp)]
        simp only [hclose]
        rw [if_neg h8, push_R]
      have hflat : flat (node n a [] k r) = ⟨2, n, a, []⟩ :: ((if emptyB n = true then [] else flat k ++ [⟨3, n, [], []⟩]) ++ flat r) := by
        rw [flat, if_neg hn]
      rw [hflat, List.foldl_cons, hopen]
      by_cases he : emptyB n = true
      · rw [if_pos he, if_pos he, List.nil_append]
        rw [e3 he] at hrest ⊢
        exact hrest
      · rw [if_neg he, if_neg he, List.foldl_append, List.foldl_append]
        have hk := ihk root (⟨n, a, nil⟩ :: ops) (by rw [nm_cons]; exact c3) (by simp only [List.length_cons]; omega)
        have e6 : (nil : Fo).app k = k := rfl
        rw [hk]
        show (flat r).foldl token (([⟨3, n, [], []⟩] : List Tok).foldl token (R root (⟨n, a, (nil : Fo).app k⟩ :: ops))) = _
        rw [e6]
        have hcl : (([⟨3, n, [], []⟩] : List Tok).foldl token (R root (⟨n, a, k⟩ :: ops))) = (R root ops).putIn n a [] k := by
          show (R root (⟨n, a, k⟩ :: ops)).token ⟨3, n, [], []⟩ = _
          unfold token
          rw [if_neg (by simp), if_neg (by simp), if_pos (by simp)]
          have ha : above n (fun _ => false) (R root (⟨n, a, k⟩ :: ops)).names = some ops.length := by
            rw [names_R]
            unfold above nmOf
            rw [List.reverse_reverse, List.map_cons]
            unfold aboveR
            rw [if_pos rfl, List.length_map]
          simp only [ha]
          unfold close
          rw [open_R, List.length_cons, Nat.add_sub_cancel_left]
          exact pop_R root ⟨n, a, k⟩ ops
        rw [hcl]
        exact hrest
theorem build_flat (f : Fo) (hc : checkF f [] false = 0) (hd : f.depth ≤ 8) : build (flat f) = f := by
  unfold build
  have h := fold_flat f nil [] hc (by simpa using hd)
  have e : (⟨nil, []⟩ : Bld) = R nil [] := rfl
  rw [e, h]
  rfl
/-! What is built is right. -/
/-- elements that are open, the innermost first. -/
def OpsOk : List Op → Prop
  | [] => True
  | o :: r => (o.name ≠ [] ∧ emptyB o.name = false ∧ isName o.name = true ∧ checkAts isName [] o.ats = 0 ∧ Fine (r.map (·.name)) o.name) ∧ checkF o.kids (nmOf r ++ [o.name]) false = 0 ∧ r.length + 1 + o.kids.depth ≤ 8 ∧ OpsOk r
def BOk (root : Fo) (ops : List Op) : Prop := checkF root [] false = 0 ∧ root.depth ≤ 8 ∧ OpsOk ops
theorem fine_nm {ops : List Op} {n : Bs} (h : Fine (ops.map (·.name)) n) : (nmOf ops).length ≤ stays (nmOf ops) n := by
  unfold nmOf
  rw [stays_R, fine_stays h, List.length_reverse]
  exact Nat.le_refl _
theorem putIn_ok (root : Fo) (ops : List Op) (n : Bs) (a : List At) (t : Bs) (k : Fo) (h : BOk root ops) (hn : nodeE (nmOf ops) n a t k = 0) (hk : checkF k (nmOf ops ++ [n]) false = 0) (hd : n ≠ [] → ops.length + 1 + k.depth ≤ 8) :
    BOk (rs root ops (snoc n a t k (cur root ops))) (os ops (snoc n a t k (cur root ops))) := by
  obtain ⟨h1, h2, h3⟩ := h
  cases ops with
  | nil =>
    refine ⟨snoc_check [] n a t k hn hk root false h1 (fun _ q => by cases q.2), snoc_depth n a t k 8 (fun q => ?_) root h2, trivial⟩
    have := hd q
    simp at this
    omega
  | cons o r =>
    obtain ⟨q1, q2, q3, q4⟩ := h3
    rw [nm_cons] at hn hk
    refine ⟨h1, h2, q1, snoc_check _ n a t k hn hk o.kids false q2 (fun _ q => by cases q.2), ?_, q4⟩
    have := snoc_depth n a t k (8 - (r.length + 1)) (fun q => by have := hd q; simp only [List.length_cons] at this; omega) o.kids (by omega)
    show r.length + 1 + (snoc n a t k o.kids).depth ≤ 8
    omega
theorem pop_ok (root : Fo) (o : Op) (r : List Op) (h : BOk root (o :: r)) : BOk (rs root r (snoc o.name o.ats [] o.kids (cur root r))) (os r (snoc o.name o.ats [] o.kids (cur root r))) := by
  obtain ⟨h1, h2, ⟨q1, q2, q3, q4, q5⟩, p2, p3, p4⟩ := h
  refine putIn_ok root r o.name o.ats [] o.kids ⟨h1, h2, p4⟩ ((nodeE_el _ _ q1 _ _ _).2 ⟨rfl, q3, fun e => absurd e (by simp [q2]), q4, fine_nm q5⟩) p2 (fun _ => p3)
theorem closeN_ok : ∀ (m : Nat) (root : Fo) (ops : List Op), BOk root ops → m ≤ ops.length → ∃ root' ops', closeN m (R root ops) = R root' ops' ∧ BOk root' ops' ∧ ops'.map (·.name) = (ops.map (·.name)).drop m
  | 0, root, ops, h, _ => ⟨root, ops, rfl, h, rfl⟩
  | m + 1, root, [], h, hm => by simp at hm
  | m + 1, root, o :: r, h, hm => by
    obtain ⟨root', ops', e, h', q⟩ := closeN_ok m _ _ (pop_ok root o r h) (by rw [len_set]; simpa using hm)
    refine ⟨root', ops', ?_, h', ?_⟩
    · show closeN m (R root (o :: r)).pop = _
      rw [pop_R, putIn_R]
      exact e
    · rw [q]
      cases r <;> rfl
theorem find_fine (x : Bs) (q : Bs → Bool) : ∀ (ops : List Op) (r : List Bs), OpsOk ops → findR x q (ops.map (·.name)) = some r → Fine r x ∧ ∃ ops', OpsOk ops' ∧ ops'.map (·.name) = r
  | [], _, _, h => by cases h
  | o :: l, r, ho, h => by
    obtain ⟨q1, q2, q3, q4⟩ := ho
    rw [List.map_cons] at h
    unfold findR at h
    by_cases e : o.name = x
    · rw [if_pos e] at h
      injection h with h
      subst h
      rw [← e]
      exact ⟨q1.2.2.2.2, l, q4, rfl⟩
    · rw [if_neg e] at h
      by_cases e2 : q o.name = true
      · rw [if_pos e2] at h; cases h
      · rw [if_neg e2] at h
        exact find_fine x q l r q4 h
theorem stays_cut (ops : List Op) (n : Bs) (h : OpsOk ops) : Fine (staysR (ops.map (·.name)) n) n := by
  by_cases hb : blockB n = true
  · unfold staysR
    simp only [hb, if_true]
    have key : findR [112] wallB ((findR [112] wallB (ops.map (·.name))).getD (ops.map (·.name))) = none ∧ ∃ ops', OpsOk ops' ∧ ops'.map (·.name) = (findR [112] wallB (ops.map (·.name))).getD (ops.map (·.name)) := by
      cases hf : findR [112] wallB (ops.map (·.name)) with
      | none => exact ⟨hf, ops, h, rfl⟩
      | some r =>
        obtain ⟨f1, f2⟩ := find_fine _ _ ops r h hf
        exact ⟨f1.1 (by decide), f2⟩
    obtain ⟨k1, ops', k2, k3⟩ := key
    rw [← k3] at k1 ⊢
    by_cases hl : n = li
    · rw [if_pos (by simpa using hl)]
      cases hf : findR li listB (ops'.map (·.name)) with
      | none => exact ⟨fun _ => k1, fun _ => hf⟩
      | some r =>
        obtain ⟨f1, _⟩ := find_fine _ _ ops' r k2 hf
        rw [hl]
        exact f1
    · rw [if_neg (by simpa using hl)]
      exact ⟨fun _ => k1, fun q => absurd q hl⟩
  · exact ⟨fun q => absurd q hb, fun q => absurd (by rw [q]; decide) hb⟩
theorem staysR_drop (l : List Bs) (n : Bs) : staysR l n = l.drop (l.length - (staysR l n).length) := by
  have hd : ∀ (x : Bs) (q : Bs → Bool) (l : List Bs), ∃ m, l = m ++ (findR x q l).getD l := fun x q l => by
    cases h : findR x q l with
    | none => exact ⟨[], rfl⟩
    | some r =>
      obtain ⟨m, e⟩ := findR_suf x q l r h
      exact ⟨m ++ [x], by rw [e]; simp⟩
  have h1 : ∃ m, l = m ++ (if blockB n = true then (findR [112] wallB l).getD l else l) := by
    split
    · exact hd _ _ l
    · exact ⟨[], rfl⟩
  have h2 : ∃ m, l = m ++ staysR l n := by
    obtain ⟨m, e⟩ := h1
    unfold staysR
    simp only
    generalize (if blockB n = true then (findR [112] wallB l).getD l else l) = l1 at e ⊢
    split
    · obtain ⟨m2, e2⟩ := hd li listB l1
      exact ⟨m ++ m2, by rw [List.append_assoc, ← e2]; exact e⟩
    · exact ⟨m, e⟩
  obtain ⟨m, e⟩ := h2
  have : l.length - (staysR l n).length = m.length := by
    have := congrArg List.length e
    simp at this
    omega
  rw [this]
  conv => rhs; rw [e]
  simp
def TokOk (t : Tok) : Prop := (t.kind = 1 ∧ t.name = [] ∧ t.ats = [] ∧ t.text ≠ []) ∨ (t.kind = 2 ∧ isName t.name = true ∧ checkAts isName [] t.ats = 0 ∧ t.text = []) ∨ (t.kind = 3 ∧ isName t.name = true ∧ t.ats = [] ∧ t.text = [])
theorem name_ne {n : Bs} (h : isName n = true) : n ≠ [] := by
  rintro rfl
  exact absurd h (by decide)
theorem token_ok (root : Fo) (ops : List Op) (t : Tok) (h : BOk root ops) (hl : ops.length ≤ 8) (ht : TokOk t) : ∃ root' ops', (R root ops).token t = R root' ops' ∧ BOk root' ops' ∧ ops'.length ≤ 8 := by
  rcases ht with ⟨k, _, _, hx⟩ | ⟨k, hn, ha, _⟩ | ⟨k, hn, _, _⟩
  · unfold token
    rw [if_pos k, putIn_R]
    exact ⟨_, _, rfl, putIn_ok root ops [] [] t.text nil h ((nodeE_text ..).2 ⟨hx, rfl, rfl⟩) rfl (fun q => absurd rfl q), by rw [len_set]; exact hl⟩
  · unfold token
    rw [if_neg (by rw [k]; decide), if_pos k]
    have hne := name_ne hn
    have hsl : stays (nmOf ops) t.name = (staysR (ops.map (·.name)) t.name).length := stays_R _ _
    have hdrop := staysR_drop (ops.map (·.name)) t.name
    rw [List.length_map] at hdrop
    obtain ⟨root', ops', e, h', q⟩ := closeN_ok (ops.length - (staysR (ops.map (·.name)) t.name).length) root ops h (Nat.sub_le _ _)
    have hf := stays_cut ops t.name h.2.2
    rw [hdrop, ← q] at hf
    have hcl : (R root ops).close (stays (R root ops).names t.name) = R root' ops' := by
      unfold close
      rw [names_R, open_R, hsl]
      exact e
    simp only [hcl, open_R]
    have hl' : ops'.length ≤ 8 := by
      have := congrArg List.length q
      simp at this
      omega
    by_cases h8 : ops'.length = 8
    · rw [if_pos h8]
      exact ⟨root', ops', rfl, h', hl'⟩
    rw [if_neg h8]
    by_cases he : emptyB t.name = true
    · rw [if_pos he, putIn_R]
      refine ⟨_, _, rfl, putIn_ok root' ops' t.name t.ats [] nil h' ((nodeE_el _ _ hne _ _ _).2 ⟨rfl, hn, fun _ => rfl, ha, fine_nm hf⟩) rfl (fun _ => ?_), by rw [len_set]; exact hl'⟩
      have : (nil : Fo).depth = 0 := rfl
      omega
    · rw [if_neg he]
      have e2 := push_R root' ops' ⟨t.name, t.ats, nil⟩
      rw [e2]
      refine ⟨root', _, rfl, ⟨h'.1, h'.2.1, ⟨hne, by simpa using he, hn, ha, hf⟩, rfl, ?_, h'.2.2⟩, ?_⟩
      · have : (nil : Fo).depth = 0 := rfl
        show ops'.length + 1 + (nil : Fo).depth ≤ 8
        omega
      · simp only [List.length_cons]
        omega
  · unfold token
    rw [if_neg (by rw [k]; decide), if_neg (by rw [k]; decide), if_pos k]
    cases ha : above t.name (fun _ => false) (R root ops).names with
    | none => exact ⟨root, ops, rfl, h, hl⟩
    | some i =>
      simp only
      unfold close
      obtain ⟨root', ops', e, h', q⟩ := closeN_ok (ops.length - i) root ops h (Nat.sub_le _ _)
      rw [open_R]
      refine ⟨root', ops', e, h', ?_⟩
      have := congrArg List.length q
      simp at this
      omega
theorem fold_ok : ∀ (l : List Tok) (root : Fo) (ops : List Op), (∀ t ∈ l, TokOk t) → BOk root ops → ops.length ≤ 8 → ∃ root' ops', l.foldl token (R root ops) = R root' ops' ∧ BOk root' ops'
  | [], root, ops, _, h, _ => ⟨root, ops, rfl, h⟩
  | t :: l, root, ops, ht, h, hl => by
    obtain ⟨root', ops', e, h', hl'⟩ := token_ok root ops t h hl (ht t (by simp))
    rw [List.foldl_cons, e]
    exact fold_ok l root' ops' (fun x q => ht x (by simp [q])) h' hl'
theorem build_ok (l : List Tok) (h : ∀ t ∈ l, TokOk t) : checkF (build l) [] false = 0 ∧ (build l).depth ≤ 8 := by
  obtain ⟨root', ops', e, h'⟩ := fold_ok l nil [] h ⟨rfl, Nat.zero_le _, trivial⟩ (Nat.zero_le _)
  obtain ⟨root2, ops2, e2, h2, _⟩ := closeN_ok ops'.length root' ops' h' (Nat.le_refl _)
  have e3 : build l = root2 := by
    unfold build
    show ((l.foldl token (R nil [])).close 0).root = root2
    rw [e]
    unfold close
    rw [open_R, Nat.sub_zero, e2]
    rfl
  rw [e3]
  exact ⟨h2.1, h2.2.1⟩
end Bld
end Mk

/- The plain law of the reference's builder: what it builds, one element within another, is what the program's builder builds. No program in sight. -/
namespace Mk
open Fo
/-- nodes that stand in names, behind some; the tokens that are left, and how many names stay open. -/
def bo : Nat → List Tok → List Bs → Fo → Fo × List Tok × Nat
  | 0, l, op, out => (out, l, op.length)
  | _ + 1, [], op, out => (out, [], op.length)
  | n + 1, t :: r, op, out =>
    if t.kind = 1 then bo n r op (snoc [] [] t.text nil out)
    else if t.kind = 3 then
      match above t.name (fun _ => false) op with
      | none => bo n r op out
      | some i => (out, r, i)
    else if stays op t.name < op.length then (out, t :: r, stays op t.name)
    else if op.length = 8 then bo n r op out
    else if emptyB t.name then bo n r op (out.app (node t.name t.ats [] nil nil))
    else
      let x := bo n r (op ++ [t.name]) nil
      if x.2.2 < op.length then (out.app (node t.name t.ats [] x.1 nil), x.2)
      else bo n x.2.1 op (out.app (node t.name t.ats [] x.1 nil))
/-- names that were let in, the innermost first. -/
def NmOk : List Bs → Prop | [] => True | n :: r => Fine r n ∧ NmOk r
theorem find_nm (x : Bs) (q : Bs → Bool) : ∀ (l r : List Bs), NmOk l → findR x q l = some r → Fine r x ∧ NmOk r
  | [], _, _, h => by cases h
  | o :: l, r, ho, h => by
    unfold findR at h
    by_cases e : o = x
    · rw [if_pos e] at h
      injection h with h
      subst h
      subst e
      exact ho
    · rw [if_neg e] at h
      by_cases e2 : q o = true
      · rw [if_pos e2] at h; cases h
      · rw [if_neg e2] at h
        exact find_nm x q l r ho.2 h
theorem stays_nm (l : List Bs) (n : Bs) (h : NmOk l) : Fine (staysR l n) n ∧ NmOk (staysR l n) := by
  by_cases hb : blockB n = true
  · unfold staysR
    simp only [hb, if_true]
    have key : findR [112] wallB ((findR [112] wallB l).getD l) = none ∧ NmOk ((findR [112] wallB l).getD l) := by
      cases hf : findR [112] wallB l with
      | none => exact ⟨hf, h⟩
      | some r =>
        obtain ⟨f1, f2⟩ := find_nm _ _ l r h hf
        exact ⟨f1.1 (by decide), f2⟩
    obtain ⟨k1, k2⟩ := key
    generalize (findR [112] wallB l).getD l = m at k1 k2 ⊢
    by_cases hl : n = li
    · rw [if_pos (by simpa using hl)]
      cases hf : findR li listB m with
      | none => exact ⟨⟨fun _ => k1, fun _ => hf⟩, k2⟩
      | some r =>
        obtain ⟨f1, f2⟩ := find_nm _ _ m r k2 hf
        rw [hl]
        exact ⟨f1, f2⟩
    · rw [if_neg (by simpa using hl)]
      exact ⟨⟨fun _ => k1, fun q => absurd q hl⟩, k2⟩
  · have e : staysR l n = l := by
      unfold staysR
      rw [if_neg hb]
      simp only
      rw [if_neg]
      intro q
      exact hb (by rw [show n = li by simpa using q]; decide)
    rw [e]
    exact ⟨⟨fun q => absurd q hb, fun q => absurd (by rw [q]; decide) hb⟩, h⟩
namespace Bld
theorem closeN_nm : ∀ (m : Nat) (root : Fo) (ops : List Op), m ≤ ops.length → ∃ root' ops', closeN m (R root ops) = R root' ops' ∧ ops'.map (·.name) = (ops.map (·.name)).drop m
  | 0, root, ops, _ => ⟨root, ops, rfl, rfl⟩
  | m + 1, root, [], hm => by simp at hm
  | m + 1, root, o :: r, hm => by
    obtain ⟨root', ops', e, q⟩ := closeN_nm m (rs root r (snoc o.name o.ats [] o.kids (cur root r))) (os r (snoc o.name o.ats [] o.kids (cur root r))) (by rw [len_set]; simpa using hm)
    refine ⟨root', ops', ?_, ?_⟩
    · show closeN m (R root (o :: r)).pop = _
      rw [pop_R, putIn_R]
      exact e
    · rw [q]
      cases r <;> rfl
theorem close_lenR (root : Fo) (ops : List Op) : (R root ops).close ops.length = R root ops := by
  unfold close
  rw [open_R, Nat.sub_self]
  rfl
theorem close_pop (root : Fo) (o : Op) (r : List Op) (m : Nat) (hm : m ≤ r.length) : (R root (o :: r)).close m = ((R root r).putIn o.name o.ats [] o.kids).close m := by
  unfold close
  rw [open_R, putIn_R, open_R, len_set, ← putIn_R, List.length_cons, Nat.succ_sub hm]
  show closeN _ (R root (o :: r)).pop = _
  rw [pop_R]
theorem token_close (root : Fo) (ops : List Op) (t : Tok) (hk : t.kind = 2) (hn : NmOk (ops.map (·.name))) : (R root ops).token t = ((R root ops).close (stays (nmOf ops) t.name)).token t := by
  have hsl : stays (nmOf ops) t.name = (staysR (ops.map (·.name)) t.name).length := stays_R _ _
  have hdrop := staysR_drop (ops.map (·.name)) t.name
  rw [List.length_map] at hdrop
  obtain ⟨root', ops', e, q⟩ := closeN_nm (ops.length - (staysR (ops.map (·.name)) t.name).length) root ops (Nat.sub_le _ _)
  have hf := (stays_nm _ t.name hn).1
  have hcl : (R root ops).close (stays (nmOf ops) t.name) = R root' ops' := by
    unfold close
    rw [open_R, hsl]
    exact e
  have hq : ops'.map (·.name) = staysR (ops.map (·.name)) t.name := by rw [q, ← hdrop]
  have h2 : (R root' ops').close (stays (nmOf ops') t.name) = R root' ops' := by
    have : stays (nmOf ops') t.name = ops'.length := by
      rw [show stays (nmOf ops') t.name = (staysR (ops'.map (·.name)) t.name).length from stays_R _ _, hq, fine_stays hf, ← hq, List.length_map]
    rw [this, close_lenR]
  rw [hcl]
  unfold token
  have h1 : ¬ t.kind = 1 := by rw [hk]; decide
  simp only [if_neg h1, if_pos hk, names_R, hcl, h2]
end Bld
open Bld
theorem bo_law : ∀ (n : Nat) (l : List Tok) (root : Fo) (ops : List Op), l.length ≤ n → (∀ t ∈ l, TokOk t) → NmOk (ops.map (·.name)) →
    ((bo n l (nmOf ops) (cur root ops)).2.2 < ops.length ∨ ((bo n l (nmOf ops) (cur root ops)).2.2 = ops.length ∧ (bo n l (nmOf ops) (cur root ops)).2.1 = [])) ∧
    (∃ p, l = p ++ (bo n l (nmOf ops) (cur root ops)).2.1) ∧
    (l.foldl token (R root ops)).close 0 = ((bo n l (nmOf ops) (cur root ops)).2.1.foldl token ((R (rs root ops (bo n l (nmOf ops) (cur root ops)).1) (os ops (bo n l (nmOf ops) (cur root ops)).1)).close (bo n l (nmOf ops) (cur root ops)).2.2)).close 0
  | 0, [], root, ops, _, _, _ => by
    refine ⟨.inr ⟨nm_len ops, rfl⟩, ⟨[], rfl⟩, ?_⟩
    show (R root ops).close 0 = ((R (rs root ops (cur root ops)) (os ops (cur root ops))).close (nmOf ops).length).close 0
    rw [nm_len, ← len_set ops (cur root ops), close_lenR]
    cases ops <;> rfl
  | n + 1, [], root, ops, _, _, _ => by
    refine ⟨.inr ⟨nm_len ops, rfl⟩, ⟨[], rfl⟩, ?_⟩
    show (R root ops).close 0 = ((R (rs root ops (cur root ops)) (os ops (cur root ops))).close (nmOf ops).length).close 0
    rw [nm_len, ← len_set ops (cur root ops), close_lenR]
    cases ops <;> rfl
  | n + 1, t :: r, root, ops, hl, ht, hn => by
    have hl' : r.length ≤ n := by simpa using hl
    have ht' : ∀ x ∈ r, TokOk x := fun x q => ht x (by simp [q])
    /- go on with other nodes -/
    have go : ∀ (f : Fo) (l2 : List Tok), l2.length ≤ n → (∀ x ∈ l2, TokOk x) →
        ((bo n l2 (nmOf ops) f).2.2 < ops.length ∨ ((bo n l2 (nmOf ops) f).2.2 = ops.length ∧ (bo n l2 (nmOf ops) f).2.1 = [])) ∧
        (∃ p, l2 = p ++ (bo n l2 (nmOf ops) f).2.1) ∧
        (l2.foldl token (R (rs root ops f) (os ops f))).close 0 = ((bo n l2 (nmOf ops) f).2.1.foldl token ((R (rs root ops (bo n l2 (nmOf ops) f).1) (os ops (bo n l2 (nmOf ops) f).1)).close (bo n l2 (nmOf ops) f).2.2)).close 0 := fun f l2 h1 h2 => by
      have h := bo_law n l2 (rs root ops f) (os ops f) h1 h2 (by cases ops <;> exact hn)
      rw [cur_set, nm_set, len_set, rs_set, os_set] at h
      exact h
    have hstay : R root ops = R (rs root ops (cur root ops)) (os ops (cur root ops)) := by cases ops <;> rfl
    rcases ht t (by simp) with ⟨k, _, _, hx⟩ | ⟨k, hnm, ha, _⟩ | ⟨k, hnm, _, _⟩
    · have e : bo (n + 1) (t :: r) (nmOf ops) (cur root ops) = bo n r (nmOf ops) (snoc [] [] t.text nil (cur root ops)) := by
        rw [bo, if_pos k]
      rw [e, List.foldl_cons]
      have et : (R root ops).token t = R (rs root ops (snoc [] [] t.text nil (cur root ops))) (os ops (snoc [] [] t.text nil (cur root ops))) := by
        unfold token
        rw [if_pos k, putIn_R]
      rw [et]
      obtain ⟨g1, ⟨p, g2⟩, g3⟩ := go (snoc [] [] t.text nil (cur root ops)) r hl' ht'
      exact ⟨g1, ⟨t :: p, by rw [List.cons_append, ← g2]⟩, g3⟩
    · have hne := name_ne hnm
      have hsn : ∀ kk, snoc t.name t.ats [] kk (cur root ops) = (cur root ops).app (node t.name t.ats [] kk nil) := fun kk => snoc_app _ _ _ _ _ (fun q => hne q.1)
      have hsle : stays (nmOf ops) t.name ≤ ops.length := by
        rw [show stays (nmOf ops) t.name = (staysR (ops.map (·.name)) t.name).length from stays_R _ _, staysR_drop, List.length_drop, List.length_map]
        exact Nat.sub_le _ _
      by_cases hs : stays (nmOf ops) t.name < (nmOf ops).length
      · have e : bo (n + 1) (t :: r) (nmOf ops) (cur root ops) = (cur root ops, t :: r, stays (nmOf ops) t.name) := by
          rw [bo, if_neg (by rw [k]; decide), if_neg (by rw [k]; decide), if_pos hs]
        rw [e]
        refine ⟨.inl (by rwa [nm_len] at hs), ⟨[], rfl⟩, ?_⟩
        show _ = (List.foldl token ((R (rs root ops (cur root ops)) (os ops (cur root ops))).close (stays (nmOf ops) t.name)) (t :: r)).close 0
        rw [← hstay, List.foldl_cons, List.foldl_cons, token_close root ops t k hn]
      · have hseq : stays (nmOf ops) t.name = ops.length := by rw [nm_len] at hs; omega
        have hfine : Fine (ops.map (·.name)) t.name := stays_fine (by
          rw [show stays (nmOf ops) t.name = (staysR (ops.map (·.name)) t.name).length from stays_R _ _] at hseq
          rw [hseq, List.length_map]
          exact Nat.le_refl _)
        have hcl : (R root ops).close (stays (R root ops).names t.name) = R root ops := by rw [names_R, hseq, close_lenR]
        have et : (R root ops).token t = if ops.length = 8 then R root ops else if emptyB t.name = true then (R root ops).putIn t.name t.ats [] nil else R root (⟨t.name, t.ats, nil⟩ :: ops) := by
          unfold token
          rw [if_neg (by rw [k]; decide), if_pos k]
          simp only [hcl, open_R, push_R]
        rw [List.foldl_cons, et]
        by_cases h8 : ops.length = 8
        · have e : bo (n + 1) (t :: r) (nmOf ops) (cur root ops) = bo n r (nmOf ops) (cur root ops) := by
            rw [bo, if_neg (by rw [k]; decide), if_neg (by rw [k]; decide), if_neg hs, if_pos (by rw [nm_len]; exact h8)]
          rw [e, if_pos h8]
          obtain ⟨g1, ⟨p, g2⟩, g3⟩ := go (cur root ops) r hl' ht'
          rw [← hstay] at g3
          exact ⟨g1, ⟨t :: p, by rw [List.cons_append, ← g2]⟩, g3⟩
        rw [if_neg h8]
        by_cases he : emptyB t.name = true
        · have e : bo (n + 1) (t :: r) (nmOf ops) (cur root ops) = bo n r (nmOf ops) ((cur root ops).app (node t.name t.ats [] nil nil)) := by
            rw [bo, if_neg (by rw [k]; decide), if_neg (by rw [k]; decide), if_neg hs, if_neg (by rw [nm_len]; exact h8), if_pos he]
          rw [e, if_pos he, putIn_R, hsn]
          obtain ⟨g1, ⟨p, g2⟩, g3⟩ := go ((cur root ops).app (node t.name t.ats [] nil nil)) r hl' ht'
          exact ⟨g1, ⟨t :: p, by rw [List.cons_append, ← g2]⟩, g3⟩
        · rw [if_neg he]
          have ih : ((bo n r (nmOf ops ++ [t.name]) nil).2.2 < ops.length + 1 ∨ ((bo n r (nmOf ops ++ [t.name]) nil).2.2 = ops.length + 1 ∧ (bo n r (nmOf ops ++ [t.name]) nil).2.1 = [])) ∧ (∃ p, r = p ++ (bo n r (nmOf ops ++ [t.name]) nil).2.1) ∧ (r.foldl token (R root (⟨t.name, t.ats, nil⟩ :: ops))).close 0 = (List.foldl token ((R root (⟨t.name, t.ats, (bo n r (nmOf ops ++ [t.name]) nil).1⟩ :: ops)).close (bo n r (nmOf ops ++ [t.name]) nil).2.2) (bo n r (nmOf ops ++ [t.name]) nil).2.1).close 0 := by
            have h := bo_law n r root (⟨t.name, t.ats, nil⟩ :: ops) hl' ht' ⟨hfine, hn⟩
            rw [nm_cons] at h
            exact h
          obtain ⟨i1, ⟨p, i2⟩, i3⟩ := ih
          have e : bo (n + 1) (t :: r) (nmOf ops) (cur root ops) = if (bo n r (nmOf ops ++ [t.name]) nil).2.2 < (nmOf ops).length then ((cur root ops).app (node t.name t.ats [] (bo n r (nmOf ops ++ [t.name]) nil).1 nil), (bo n r (nmOf ops ++ [t.name]) nil).2) else bo n (bo n r (nmOf ops ++ [t.name]) nil).2.1 (nmOf ops) ((cur root ops).app (node t.name t.ats [] (bo n r (nmOf ops ++ [t.name]) nil).1 nil)) := by
            rw [bo, if_neg (by rw [k]; decide), if_neg (by rw [k]; decide), if_neg hs, if_neg (by rw [nm_len]; exact h8), if_neg he]
          rw [e, i3]
          generalize bo n r (nmOf ops ++ [t.name]) nil = x at i1 i2 ⊢
          obtain ⟨kids, l2, left⟩ := x
          simp only at i1 i2 ⊢
          rw [nm_len]
          by_cases hlt : left < ops.length
          · rw [if_pos hlt]
            refine ⟨.inl hlt, ⟨t :: p, by rw [List.cons_append, ← i2]⟩, ?_⟩
            rw [close_pop _ _ _ _ (Nat.le_of_lt hlt), putIn_R, hsn]
          · rw [if_neg hlt]
            have hl2 : l2.length ≤ n := by
              have := congrArg List.length i2
              rw [List.length_append] at this
              omega
            obtain ⟨g1, ⟨p2, g2⟩, g3⟩ := go ((cur root ops).app (node t.name t.ats [] kids nil)) l2 hl2 (fun x q => ht' x (by rw [i2]; simp [q]))
            refine ⟨g1, ⟨t :: (p ++ p2), by rw [List.cons_append, List.append_assoc, ← g2, ← i2]⟩, ?_⟩
            rw [← g3]
            rcases i1 with q | ⟨q, q2⟩
            · have : left = ops.length := by omega
              rw [this, close_pop _ _ _ _ (Nat.le_refl _), putIn_R, hsn]
              congr 2
              have := close_lenR (rs root ops ((cur root ops).app (node t.name t.ats [] kids nil))) (os ops ((cur root ops).app (node t.name t.ats [] kids nil)))
              rw [len_set] at this
              exact this
            · subst q2
              rw [q]
              have := close_lenR root (⟨t.name, t.ats, kids⟩ :: ops)
              rw [List.length_cons] at this
              rw [this]
              show (R root (⟨t.name, t.ats, kids⟩ :: ops)).close 0 = (R _ _).close 0
              rw [close_pop _ _ _ _ (Nat.zero_le _), putIn_R, hsn]
    · rw [List.foldl_cons]
      have et : (R root ops).token t = match above t.name (fun _ => false) (nmOf ops) with | none => R root ops | some i => (R root ops).close i := by
        unfold token
        rw [if_neg (by rw [k]; decide), if_neg (by rw [k]; decide), if_pos k, names_R]
        cases above t.name (fun _ => false) (nmOf ops) <;> rfl
      have e : bo (n + 1) (t :: r) (nmOf ops) (cur root ops) = match above t.name (fun _ => false) (nmOf ops) with | none => bo n r (nmOf ops) (cur root ops) | some i => (cur root ops, r, i) := by
        rw [bo, if_neg (by rw [k]; decide), if_pos k]
      rw [e, et]
      cases ha : above t.name (fun _ => false) (nmOf ops) with
      | none =>
        obtain ⟨g1, ⟨p, g2⟩, g3⟩ := go (cur root ops) r hl' ht'
        rw [← hstay] at g3
        exact ⟨g1, ⟨t :: p, by rw [List.cons_append, ← g2]⟩, g3⟩
      | some i =>
        have hi : i < ops.length := by
          have : above t.name (fun _ => false) (nmOf ops) = (findR t.name (fun _ => false) (ops.map (·.name))).map List.length := by
            unfold above nmOf
            rw [List.reverse_reverse, aboveR_find]
          rw [this] at ha
          cases hf : findR t.name (fun _ => false) (ops.map (·.name)) with
          | none => rw [hf] at ha; cases ha
          | some m =>
            rw [hf] at ha
            injection ha with ha
            obtain ⟨m2, e2⟩ := findR_suf _ _ _ _ hf
            have := congrArg List.length e2
            simp at this
            omega
        exact ⟨.inl hi, ⟨[t], rfl⟩, by show _ = (List.foldl token ((R (rs root ops (cur root ops)) (os ops (cur root ops))).close i) r).close 0; rw [← hstay]⟩
/-- what the reference builds is what the program builds. -/
theorem bo_build (l : List Tok) (n : Nat) (hn : l.length ≤ n) (h : ∀ t ∈ l, TokOk t) : (bo n l [] nil).1 = build l := by
  obtain ⟨h1, _, h3⟩ := bo_law n l nil [] hn h trivial
  have h4 : (bo n l [] nil).2.2 = 0 ∧ (bo n l [] nil).2.1 = [] := by
    rcases h1 with q | q
    · simp at q
    · exact q
  change (l.foldl token (R nil [])).close 0 = (List.foldl token ((R (bo n l [] nil).1 []).close (bo n l [] nil).2.2) (bo n l [] nil).2.1).close 0 at h3
  rw [h4.1, h4.2] at h3
  unfold build
  show _ = ((l.foldl token (R nil [])).close 0).root
  rw [h3]
  rfl
end Mk

/- The plain law of the reference's builder, told without fuel. No program in sight. -/
namespace Mk
open Fo
theorem bo_len : ∀ (n : Nat) (l : List Tok) (op : List Bs) (out : Fo), (bo n l op out).2.1.length ≤ l.length
  | 0, l, op, out => Nat.le_refl _
  | n + 1, [], op, out => Nat.le_refl _
  | n + 1, t :: r, op, out => by
    rw [bo]
    split
    · exact Nat.le_succ_of_le (bo_len n r _ _)
    split
    · split
      · exact Nat.le_succ_of_le (bo_len n r _ _)
      · exact Nat.le_succ _
    split
    · exact Nat.le_refl _
    split
    · exact Nat.le_succ_of_le (bo_len n r _ _)
    split
    · exact Nat.le_succ_of_le (bo_len n r _ _)
    have h1 := bo_len n r (op ++ [t.name]) nil
    simp only
    split
    · exact Nat.le_succ_of_le h1
    · exact Nat.le_succ_of_le (Nat.le_trans (bo_len n _ _ _) h1)
theorem bo_fuel : ∀ (n m : Nat) (l : List Tok) (op : List Bs) (out : Fo), l.length ≤ n → l.length ≤ m → bo n l op out = bo m l op out
  | 0, m, l, op, out, h, _ => by
    have : l = [] := List.eq_nil_of_length_eq_zero (by omega)
    subst this
    cases m <;> rfl
  | n + 1, m, [], op, out, _, _ => by cases m <;> rfl
  | n + 1, 0, t :: r, op, out, _, h => by simp at h
  | n + 1, m + 1, t :: r, op, out, h1, h2 => by
    have h1 : r.length ≤ n := by simpa using h1
    have h2 : r.length ≤ m := by simpa using h2
    have hk := bo_len m r (op ++ [t.name]) nil
    rw [bo, bo]
    simp only [bo_fuel n m r _ _ h1 h2]
    rw [bo_fuel n m (bo m r (op ++ [t.name]) nil).2.1 op _ (by omega) (by omega)]
def boR (l : List Tok) (op : List Bs) (out : Fo) : Fo × List Tok × Nat := bo l.length l op out
theorem boR_nil (op : List Bs) (out : Fo) : boR [] op out = (out, [], op.length) := rfl
theorem boR_len (l : List Tok) (op : List Bs) (out : Fo) : (boR l op out).2.1.length ≤ l.length := bo_len _ _ _ _
theorem boR_cons (t : Tok) (r : List Tok) (op : List Bs) (out : Fo) : boR (t :: r) op out =
    if t.kind = 1 then boR r op (snoc [] [] t.text nil out)
    else if t.kind = 3 then
      match above t.name (fun _ => false) op with
      | none => boR r op out
      | some i => (out, r, i)
    else if stays op t.name < op.length then (out, t :: r, stays op t.name)
    else if op.length = 8 then boR r op out
    else if emptyB t.name then boR r op (out.app (node t.name t.ats [] nil nil))
    else if (boR r (op ++ [t.name]) nil).2.2 < op.length then (out.app (node t.name t.ats [] (boR r (op ++ [t.name]) nil).1 nil), (boR r (op ++ [t.name]) nil).2)
      else boR (boR r (op ++ [t.name]) nil).2.1 op (out.app (node t.name t.ats [] (boR r (op ++ [t.name]) nil).1 nil)) := by
  show bo (r.length + 1) (t :: r) op out = _
  rw [bo]
  simp only
  have h := bo_len r.length r (op ++ [t.name]) nil
  rw [bo_fuel r.length (boR r (op ++ [t.name]) nil).2.1.length (bo r.length r (op ++ [t.name]) nil).2.1 op _ h (Nat.le_refl _)]
  rfl
theorem boR_build (l : List Tok) (h : ∀ t ∈ l, Bld.TokOk t) : (boR l [] nil).1 = build l := bo_build l l.length (Nat.le_refl _) h
end Mk

/- A push into a tree's builder in memory. No program in sight. -/
namespace Go.Proofs.YteidgdpaolieaaaGreatDoor
open Go.RowKit
theorem setCell_os (w : World) (p : Addr) (v : Value) : (w.setCell p v).os = w.os := rfl
theorem setCell_tape (w : World) (p : Addr) (v : Value) : (w.setCell p v).tape = w.tape := rfl
theorem setCell_output (w : World) (p : Addr) (v : Value) : (w.setCell p v).output = w.output := rfl
theorem heap_comm (w : World) (p q : Addr) (u v : Value) (h : p.block ≠ q.block) : ((w.setCell p u).setCell q v).heap = ((w.setCell q v).setCell p u).heap := by
  apply Array.ext_getElem?
  intro b
  simp only [World.setCell, Array.getElem?_modify]
  by_cases h1 : p.block = b
  · have h2 : ¬ q.block = b := fun e => h (h1.trans e.symm)
    simp [h1, h2]
  · simp [h1]
theorem heap_set (w w' : World) (h : w.heap = w'.heap) (p : Addr) (u : Value) : (w.setCell p u).heap = (w'.setCell p u).heap := by
  simp only [World.setCell, h]
theorem heap_comm5 (w : World) (q p0 p1 p2 p3 : Addr) (v u0 u1 u2 u3 : Value) (h0 : p0.block ≠ q.block) (h1 : p1.block ≠ q.block) (h2 : p2.block ≠ q.block) (h3 : p3.block ≠ q.block) :
    (((((w.setCell q v).setCell p0 u0).setCell p1 u1).setCell p2 u2).setCell p3 u3).heap = (((((w.setCell p0 u0).setCell p1 u1).setCell p2 u2).setCell p3 u3).setCell q v).heap := by
  rw [heap_comm _ p3 q u3 v h3]
  apply heap_set
  rw [heap_comm _ p2 q u2 v h2]
  apply heap_set
  rw [heap_comm _ p1 q u1 v h1]
  apply heap_set
  exact (heap_comm _ p0 q u0 v h0).symm
theorem and_fin {A B C : Prop} (h : A ∧ B) (f : B → C) : A ∧ C := ⟨h.1, f h.2⟩
theorem set4 {xs : List Value} {m : Nat} (h : xs.length = m) (a b c d a' b' c' d' : Value) : ((((xs ++ [a, b, c, d]).set m a').set (m + 1) b').set (m + 2) c').set (m + 3) d' = xs ++ [a', b', c', d'] := by
  subst h
  simp [List.set_append_right]
section
variable {w1 w9 w10 : World} {B P gn capn : Nat} {K : Nat → Prop} {L : List Mk.Fo} {f : Mk.Fo} {os : List (Mk.Bs × List Mk.At)} {vo v' : Value} {ns xo xs : List Value} {ao0 : Option Addr} {cap0 : Nat}
theorem bld_pushed (h : BldV w1 B P K (L ++ [f]) os (.slice (some ⟨gn, 0, none⟩) (L.length + 1) capn) vo ns xo) (hns : ns[L.length]? = some (.slice ao0 f.len cap0)) (hcn : w1.cell? ⟨gn, L.length, none⟩ = some (.slice ao0 f.len cap0))
    (hx : xs.length = f.len * 4) (hb9 : Below w1.heap.size w1 w9) (hown : w10.ownsRow B 52 4 v' (f.len + 1) (xs ++ [.string ⟨#[]⟩, .slice none 0 0, .string ⟨#[]⟩, .slice none 0 0])) (hg : w9.grownBy w10 (Value.slice ao0 f.len cap0).ownBlock)
    (hf : v'.ownBlock = (Value.slice ao0 f.len cap0).ownBlock ∨ v'.ownBlock = some w9.heap.size) :
    ∃ g' cap', v' = .slice (some ⟨g', 0, none⟩) (f.len + 1) cap' ∧ w10.cell? ⟨g', f.len * 4, none⟩ = some (.string ⟨#[]⟩) ∧ w10.cell? ⟨g', f.len * 4 + 1, none⟩ = some (.slice none 0 0) ∧ w10.cell? ⟨g', f.len * 4 + 2, none⟩ = some (.string ⟨#[]⟩) ∧ w10.cell? ⟨g', f.len * 4 + 3, none⟩ = some (.slice none 0 0) ∧ (∀ i, w10.frozen? ⟨g', i, none⟩ = false) ∧ w10.cell? ⟨gn, L.length, none⟩ = some (.slice ao0 f.len cap0) ∧ w10.frozen? ⟨gn, L.length, none⟩ = false ∧ gn ≠ g' ∧ (∀ b, b < w1.heap.size → (Value.slice ao0 f.len cap0).ownBlock ≠ some b → w10.heap[b]? = w1.heap[b]?) := by
  have hgn : (Value.slice (some ⟨gn, 0, none⟩) (L.length + 1) capn).ownBlock = some gn := rfl
  have hgl := (h.rn.lt gn hgn).2
  have hne0 : (Value.slice ao0 f.len cap0).ownBlock ≠ some gn := fun e => (h.df _ _ gn hns e).2.1 rfl
  have hw : w10.heap[gn]? = w1.heap[gn]? := (hg.block gn (Nat.lt_of_lt_of_le hgl hb9.size) (fun e => hne0 e.symm)).trans (hb9.block gn hgl)
  rcases hown.2 with ⟨_, h0⟩ | ⟨g', cap', cur, hv, hb, hh, hnc, hcm, hcs, ht⟩
  · omega
  · have hc := hown.cells (g := g') (by rw [hv]; rfl)
    have e0 : ∀ j, (⟨g', 0, none⟩ : Addr).add j = ⟨g', j, none⟩ := by intro j; unfold Addr.add; split <;> simp_all
    have hcc : ∀ i u, [Value.string ⟨#[]⟩, .slice none 0 0, .string ⟨#[]⟩, .slice none 0 0][i]? = some u → w10.cell? ⟨g', f.len * 4 + i, none⟩ = some u := by
      intro i u hu
      have := hc (f.len * 4 + i) u (by rw [List.getElem?_append_right (by omega), hx]; simpa using hu)
      rwa [e0] at this
    refine ⟨g', cap', hv, hcc 0 _ rfl, hcc 1 _ rfl, hcc 2 _ rfl, hcc 3 _ rfl, fun i => by simp [World.frozen?, hh], (cell_of_block hw _).trans hcn, ?_, ?_, fun b h1 h2 => (hg.block b (Nat.lt_of_lt_of_le h1 hb9.size) (fun e => h2 e.symm)).trans (hb9.block b h1)⟩
    · obtain ⟨g2, cap2, cur2, hv2, _, hh2, _⟩ : ∃ g2 cap2 cur2, (Value.slice (some ⟨gn, 0, none⟩) (L.length + 1) capn) = .slice (some ⟨g2, 0, none⟩) (L.length + 1) cap2 ∧ B ≤ g2 ∧ w1.heap[g2]? = some (.cells cur2 22 (0, 0)) ∧ True := by
        rcases h.rn.2 with ⟨hq, _⟩ | ⟨g2, cap2, cur2, hv2, hb2, hh2, _⟩
        · cases hq
        · exact ⟨g2, cap2, cur2, by rw [List.length_append] at hv2; exact hv2, hb2, hh2, trivial⟩
      injection hv2 with hv2 _ _
      injection hv2 with hv2
      injection hv2 with hv2
      subst hv2
      simp [World.frozen?, hw, hh2]
    · rintro rfl
      rcases hf with e | e
      · rw [hv] at e; exact hne0 e.symm
      · rw [hv] at e
        have e : some gn = some w9.heap.size := e
        injection e with e
        have := hb9.size
        omega
set_option maxHeartbeats 4000000 in
theorem bld_done (h : BldV w1 B P K (L ++ [f]) os (.slice (some ⟨gn, 0, none⟩) (L.length + 1) capn) vo ns xo) (hns : ns[L.length]? = some (.slice ao0 f.len cap0)) (hof : OwnF w1 B K (.slice ao0 f.len cap0) f xs) (hb9 : Below w1.heap.size w1 w9) {g' cap' : Nat}
    (hown : w10.ownsRow B 52 4 (.slice (some ⟨g', 0, none⟩) (f.len + 1) cap') (f.len + 1) (xs ++ [.string ⟨#[]⟩, .slice none 0 0, .string ⟨#[]⟩, .slice none 0 0])) (hg : w9.grownBy w10 (Value.slice ao0 f.len cap0).ownBlock)
    (hf : (Value.slice (some ⟨g', 0, none⟩) (f.len + 1) cap').ownBlock = (Value.slice ao0 f.len cap0).ownBlock ∨ (Value.slice (some ⟨g', 0, none⟩) (f.len + 1) cap').ownBlock = some w9.heap.size) (hgg : gn ≠ g')
    {n : List UInt8} {a : List Mk.At} {t : List UInt8} {k : Mk.Fo} {va : Value} {ao : Option Addr} {cap : Nat} {zs : List Value} (h2 : AtsV w1 K va a) (h3 : RowAt w1 K ao zs) (h4 : k.len ≤ maxLen) (h5 : FCells w1 K k zs) (hm : f.merges n = false) {wF : World}
    (hF : wF.heap = (((((w10.setCell ⟨g', f.len * 4, none⟩ (.string (st n))).setCell ⟨g', f.len * 4 + 1, none⟩ va).setCell ⟨g', f.len * 4 + 2, none⟩ (.string (st t))).setCell ⟨g', f.len * 4 + 3, none⟩ (.slice ao k.len cap)).setCell ⟨gn, L.length, none⟩ (.slice (some ⟨g', 0, none⟩) (f.len + 1) cap')).heap ∨ wF.heap = (((((w10.setCell ⟨gn, L.length, none⟩ (.slice (some ⟨g', 0, none⟩) (f.len + 1) cap')).setCell ⟨g', f.len * 4, none⟩ (.string (st n))).setCell ⟨g', f.len * 4 + 1, none⟩ va).setCell ⟨g', f.len * 4 + 2, none⟩ (.string (st t))).setCell ⟨g', f.len * 4 + 3, none⟩ (.slice ao k.len cap)).heap) (ho : wF.os = w10.os) (htp : wF.tape = w10.tape) (hout : wF.output = w10.output) :
    (∃ ns', BldV wF B P K (L ++ [Mk.Fo.snoc n a t k f]) os (.slice (some ⟨gn, 0, none⟩) (L.length + 1) capn) vo ns' xo) ∧ Ap (fun b => B ≤ b ∧ ¬ K b) w1 wF := by
  have hF : wF.heap = (((((w10.setCell ⟨g', f.len * 4, none⟩ (.string (st n))).setCell ⟨g', f.len * 4 + 1, none⟩ va).setCell ⟨g', f.len * 4 + 2, none⟩ (.string (st t))).setCell ⟨g', f.len * 4 + 3, none⟩ (.slice ao k.len cap)).setCell ⟨gn, L.length, none⟩ (.slice (some ⟨g', 0, none⟩) (f.len + 1) cap')).heap := by
    rcases hF with h | h
    · exact h
    · exact h.trans (heap_comm5 _ _ _ _ _ _ _ _ _ _ _ (fun e => hgg e.symm) (fun e => hgg e.symm) (fun e => hgg e.symm) (fun e => hgg e.symm))
  have hgn : (Value.slice (some ⟨gn, 0, none⟩) (L.length + 1) capn).ownBlock = some gn := rfl
  have hg' : (Value.slice (some ⟨g', 0, none⟩) (f.len + 1) cap').ownBlock = some g' := rfl
  have hgl := h.rn.lt gn hgn
  have hlen := hof.cells.length
  have S1 := own_set hown hg' (f.len * 4) (.string (st n))
  have S2 := own_set S1 hg' (f.len * 4 + 1) va
  have S3 := own_set S2 hg' (f.len * 4 + 2) (.string (st t))
  have S4 := own_set S3 hg' (f.len * 4 + 3) (.slice ao k.len cap)
  rw [set4 hlen] at S4
  have S5 := ownsRow_setCell_other S4 (a := ⟨gn, L.length, none⟩) (by rw [hg']; intro e; injection e with e; exact hgg e.symm) (.slice (some ⟨g', 0, none⟩) (f.len + 1) cap')
  have SF : wF.ownsRow B 52 4 (.slice (some ⟨g', 0, none⟩) (f.len + 1) cap') (f.len + 1) (xs ++ [.string (st n), va, .string (st t), .slice ao k.len cap]) := own_keep S5 (fun g _ => by rw [hF])
  have hbF : ∀ b, b ≠ g' → b ≠ gn → wF.heap[b]? = w10.heap[b]? := by
    intro b h1 h2
    rw [hF, Below.heap_setCell _ ⟨gn, L.length, none⟩ _ b h2, Below.heap_setCell _ ⟨g', f.len * 4 + 3, none⟩ _ b h1, Below.heap_setCell _ ⟨g', f.len * 4 + 2, none⟩ _ b h1, Below.heap_setCell _ ⟨g', f.len * 4 + 1, none⟩ _ b h1, Below.heap_setCell _ ⟨g', f.len * 4, none⟩ _ b h1]
  have fr : g' < w1.heap.size → (Value.slice ao0 f.len cap0).ownBlock = some g' := by
    intro hlt
    rcases hf with e | e
    · rw [← e]; exact hg'
    · rw [hg'] at e; injection e with e; have := hb9.size; omega
  have hsz : w10.heap.size = wF.heap.size := by rw [hF]; simp [World.setCell]
  have hs : w1.heap.size ≤ wF.heap.size := by rw [← hsz]; exact Nat.le_trans hb9.size hg.size
  have hb : ∀ b, b < w1.heap.size → (Value.slice ao0 f.len cap0).ownBlock ≠ some b → b ≠ gn → wF.heap[b]? = w1.heap[b]? := by
    intro b h1 h2 h3
    rw [hbF b (by rintro rfl; exact h2 (fr h1)) h3, hg.block b (Nat.lt_of_lt_of_le h1 hb9.size) (fun e => h2 e.symm), hb9.block b h1]
  have hKn : ∀ b, K b → wF.heap[b]? = w1.heap[b]? := fun b q => hb b (hof.le b q) (fun e => hof.ne b e q) (fun e => (h.dn gn hgn).2 (e ▸ q))
  have hne0 : (Value.slice ao0 f.len cap0).ownBlock ≠ some gn := fun e => (h.df _ _ gn hns e).2.1 rfl
  have hw : w10.heap[gn]? = w1.heap[gn]? := (hg.block gn (Nat.lt_of_lt_of_le hgl.2 hb9.size) (fun e => hne0 e.symm)).trans (hb9.block gn hgl.2)
  refine ⟨⟨_, h.swap hgn hns (v' := .slice (some ⟨g', 0, none⟩) (f.len + 1) cap') (f' := Mk.Fo.snoc n a t k f) (xs := xs ++ [.string (st n), va, .string (st t), .slice ao k.len cap]) ⟨?_, ?_, ?_, ?_⟩ hs ?_ hb ?_ hof.ne⟩, ?_⟩
  · rw [Mk.Fo.snoc_len_push f n a t k hm]; exact SF
  · exact (FCells.push h2 h3 h4 h5 f xs hof.cells hm).frame fun b q => ⟨q, hKn b q⟩
  · intro g e q
    rw [hg'] at e
    injection e with e
    subst e
    exact hof.ne _ (fr (hof.le _ q)) q
  · exact fun b q => Nat.lt_of_lt_of_le (hof.le b q) hs
  · rcases hf with e | e
    · exact .inl e
    · exact .inr ⟨_, e, hb9.size⟩
  · have hrn := h.rn
    rw [List.length_append] at hrn
    have R10 : w10.ownsRow B 22 1 (.slice (some ⟨gn, 0, none⟩) (L.length + 1) capn) (L.length + 1) ns := own_keep hrn (fun g e => by rw [hgn] at e; injection e with e; rw [← e]; exact hw)
    have R11 := own_keep R10 (w' := (((w10.setCell ⟨g', f.len * 4, none⟩ (.string (st n))).setCell ⟨g', f.len * 4 + 1, none⟩ va).setCell ⟨g', f.len * 4 + 2, none⟩ (.string (st t))).setCell ⟨g', f.len * 4 + 3, none⟩ (.slice ao k.len cap)) (fun g e => by
      rw [hgn] at e
      injection e with e
      have h1 : g ≠ g' := by rw [← e]; exact hgg
      rw [Below.heap_setCell _ ⟨g', f.len * 4 + 3, none⟩ _ g h1, Below.heap_setCell _ ⟨g', f.len * 4 + 2, none⟩ _ g h1, Below.heap_setCell _ ⟨g', f.len * 4 + 1, none⟩ _ g h1, Below.heap_setCell _ ⟨g', f.len * 4, none⟩ _ g h1])
    exact own_keep (own_set R11 hgn L.length (.slice (some ⟨g', 0, none⟩) (f.len + 1) cap')) (fun g _ => by rw [hF])
  · refine ⟨ho.trans (hg.os.trans hb9.os), htp.trans (hg.tape.trans hb9.tape), hout.trans (hg.output.trans hb9.output), hs, fun b h1 h2 => ?_⟩
    by_cases hB : B ≤ b
    · have q : K b := Classical.byContradiction fun q => h2 ⟨hB, q⟩
      exact hKn b q
    · refine hb b h1 (fun e => ?_) (fun e => ?_)
      · have := (hof.own.lt b e).1; omega
      · have := hgl.1; omega
end
end Go.Proofs.YteidgdpaolieaaaGreatDoor
