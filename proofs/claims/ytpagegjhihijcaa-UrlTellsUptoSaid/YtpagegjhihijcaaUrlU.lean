/- The law of all calls of links: UrlTells answers true. Condition: the parts of the link that is joined are together at most 1048576 bytes. -/
import Derived.Test.YtpagegjhihijcaaUrlS
import Derived.Test.YtpagegjhihijcaaUrlT
import Derived.Test.YtpagegjhihijcaaUrlM
namespace Go.Proofs.Ytpagegjhihijcaa
open Go.RowKit

theorem eql_self (a : Mg.U) (w : World) : (binOp .eql 23 (.agg #[.string (st a.sch), .string (st a.au), .string (st a.pa), .string (st a.qu), .string (st a.fr), .bool a.hs, .bool a.ha, .bool a.hq, .bool a.hf]) (.agg #[.string (st a.sch), .string (st a.au), .string (st a.pa), .string (st a.qu), .string (st a.fr), .bool a.hs, .bool a.ha, .bool a.hq, .bool a.hf])).run Try.prog w = .ok (.bool true) w := by
  have h := run_eql_url2 a a w
  unfold uVal at h
  rw [h]; simp
theorem guard_self (a : Mg.U) (x y : Operand) (w : World) : (eqGuard .eql 23 x y (.agg #[.string (st a.sch), .string (st a.au), .string (st a.pa), .string (st a.qu), .string (st a.fr), .bool a.hs, .bool a.ha, .bool a.hq, .bool a.hf]) (.agg #[.string (st a.sch), .string (st a.au), .string (st a.pa), .string (st a.qu), .string (st a.fr), .bool a.hs, .bool a.ha, .bool a.hq, .bool a.hf])).run Try.prog w = .ok () w := by
  have h := run_guard_url a a x y w
  unfold uVal at h
  exact h
theorem tooLong_yes (s : ByteArray) (h : 3000 < s.size) (w : World) : Calls Try.prog 12 #[.string s] w fun e w' => e = .returned (.int .i64 2) ∧ w = w' := by
  have := law_tooLong s w; rwa [if_pos h] at this
theorem tooLong_no (s : ByteArray) (h : s.size ≤ 3000) (w : World) : Calls Try.prog 12 #[.string s] w fun e w' => e = .returned (.int .i64 0) ∧ w = w' := by
  have := law_tooLong s w; rwa [if_neg (by omega)] at this
theorem ref_JoinOf_is (u : Mg.U) (b : Bool) (hj : Mg.joinOk u = b) (hl : u.sch.length + u.au.length + u.pa.length + u.qu.length + u.fr.length ≤ 1048576) (w : World) : Calls Try.prog 13 #[uVal u] w fun e w' => e = .returned (.tuple #[.string (st (Mg.join u)), .bool b]) ∧ Below w.heap.size w w' := by
  have := ref_JoinOf u w hl; rwa [hj] at this
theorem ref_ResolveOf_is (base s : ByteArray) (hb : base.size ≤ 3000) (hs : s.size ≤ 3000) (c : Bool) (hj : Mg.joinOk (Mg.resU (Mg.split base.data.toList) (Mg.split s.data.toList)) = c) (w : World) :
    Calls Try.prog 16 #[.string base, .string s] w fun e w' => e = .returned (.tuple #[.string (st (Mg.join (Mg.resU (Mg.split base.data.toList) (Mg.split s.data.toList)))), .bool c]) ∧ Below w.heap.size w w' := by
  have := ref_ResolveOf base s w hb hs; rwa [hj] at this
theorem field_hs (V : Mg.U) (b : Bool) (w : World) : (Instr.field 23 (.agg #[.string (st V.sch), .string (st V.au), .string (st V.pa), .string (st V.qu), .string (st V.fr), .bool b, .bool V.ha, .bool V.hq, .bool V.hf]) 5).run Try.prog w = .ok (.bool b) w := by kernel_rfl
theorem fill_eq (u : Mg.U) : (((((((((zCells.setIfInBounds 0 (.string (st u.sch))).setIfInBounds 1 (.string (st u.au))).setIfInBounds 2 (.string (st u.pa))).setIfInBounds 3 (.string (st u.qu))).setIfInBounds 4 (.string (st u.fr))).setIfInBounds 5 (.bool u.hs)).setIfInBounds 6 (.bool u.ha)).setIfInBounds 7 (.bool u.hq)).setIfInBounds 8 (.bool u.hf)) = uCells u := by simp [zCells, uCells]
theorem blk_fill {w : World} {g : Nat} (h : Blk w g 23 zCells) (u : Mg.U) : Blk (((((((((w.setCell ⟨g, 0, none⟩ (.string (st u.sch))).setCell ⟨g, 1, none⟩ (.string (st u.au))).setCell ⟨g, 2, none⟩ (.string (st u.pa))).setCell ⟨g, 3, none⟩ (.string (st u.qu))).setCell ⟨g, 4, none⟩ (.string (st u.fr))).setCell ⟨g, 5, none⟩ (.bool u.hs)).setCell ⟨g, 6, none⟩ (.bool u.ha)).setCell ⟨g, 7, none⟩ (.bool u.hq)).setCell ⟨g, 8, none⟩ (.bool u.hf)) g 23 (uCells u) := by
  have h := ((((((((h.set_ 0 (.string (st u.sch))).set_ 1 (.string (st u.au))).set_ 2 (.string (st u.pa))).set_ 3 (.string (st u.qu))).set_ 4 (.string (st u.fr))).set_ 5 (.bool u.hs)).set_ 6 (.bool u.ha)).set_ 7 (.bool u.hq)).set_ 8 (.bool u.hf)
  rw [fill_eq] at h
  exact h
theorem blk_far9 {w : World} {g k : Nat} {t : TypeId} {cs : Array Value} (h : Blk w k t cs) (hn : k ≠ g) (u : Mg.U) : Blk (((((((((w.setCell ⟨g, 0, none⟩ (.string (st u.sch))).setCell ⟨g, 1, none⟩ (.string (st u.au))).setCell ⟨g, 2, none⟩ (.string (st u.pa))).setCell ⟨g, 3, none⟩ (.string (st u.qu))).setCell ⟨g, 4, none⟩ (.string (st u.fr))).setCell ⟨g, 5, none⟩ (.bool u.hs)).setCell ⟨g, 6, none⟩ (.bool u.ha)).setCell ⟨g, 7, none⟩ (.bool u.hq)).setCell ⟨g, 8, none⟩ (.bool u.hf)) k t cs :=
  ((((((((h.far hn _).far hn _).far hn _).far hn _).far hn _).far hn _).far hn _).far hn _).far hn _
theorem below_far9 {B : Nat} {a w : World} {g : Nat} (h : Below B a w) (hn : B ≤ g) (u : Mg.U) : Below B a (((((((((w.setCell ⟨g, 0, none⟩ (.string (st u.sch))).setCell ⟨g, 1, none⟩ (.string (st u.au))).setCell ⟨g, 2, none⟩ (.string (st u.pa))).setCell ⟨g, 3, none⟩ (.string (st u.qu))).setCell ⟨g, 4, none⟩ (.string (st u.fr))).setCell ⟨g, 5, none⟩ (.bool u.hs)).setCell ⟨g, 6, none⟩ (.bool u.ha)).setCell ⟨g, 7, none⟩ (.bool u.hq)).setCell ⟨g, 8, none⟩ (.bool u.hf)) :=
  ((((((((h.setCell hn _).setCell hn _).setCell hn _).setCell hn _).setCell hn _).setCell hn _).setCell hn _).setCell hn _).setCell hn _

theorem hs_def (s : List UInt8) : (Mg.split s).hs = decide (Mg.schOf s ≠ 0) := rfl
set_option maxHeartbeats 2000000 in
set_option maxRecDepth 100000 in
theorem tells_AY (s base : ByteArray) (u : Mg.U) (w : World) (hl : u.sch.length + u.au.length + u.pa.length + u.qu.length + u.fr.length ≤ 1048576) (hs : 3000 < s.size) (cb : Int) (hcb : (3000 < base.size ∧ cb = 2) ∨ (base.size ≤ 3000 ∧ cb = 0)) (hj : Mg.joinOk u = true) :
    Calls Try.prog 3 #[.string s, .string base, uVal u] w fun e w' => e = .returned (.bool true) ∧ Below w.heap.size w w' := by
  have HJ := Lib.hid (fun W => url_Join_yes u W hl hj)
  have HRJ := Lib.hid (fun W => ref_JoinOf_is u _ hj hl W)
  obtain ⟨j, hjj⟩ : ∃ j, Mg.join u = j := ⟨_, rfl⟩
  rw [hjj] at HJ HRJ
  clear hjj
  have HSp := Lib.hid (fun W => url_Split_long s W hs)
  have HD := Lib.hid (fun W => url_Dots_long s W hs)
  have HSf := Lib.hid (fun W => url_Safe_long s W hs)
  have HTs := Lib.hid (tooLong_yes s hs)
  have hcc : cb = 0 ∨ cb = 2 := by rcases hcb with ⟨_, h⟩ | ⟨_, h⟩ <;> omega
  have htb : ∀ W : World, Calls Try.prog 12 #[.string base] W fun e w' => e = .returned (.int .i64 cb) ∧ W = w' := by
    rcases hcb with ⟨h, rfl⟩ | ⟨h, rfl⟩
    · exact tooLong_yes base h
    · exact tooLong_no base h
  have HTb := Lib.hid htb
  clear htb hcb
  have HR := Lib.hid (fun W => url_Resolve_long base s W (.inr hs))
  obtain ⟨U, hU⟩ : ∃ U : Mg.U, Mg.nilU = U := ⟨_, rfl⟩
  rw [hU] at HSp
  clear hj
  unfold uVal
  have k := Blk.new w 23 (uCells u)
  have l := (Below.refl _ w).alloc (Nat.le_refl _) (.cells (uCells u) 23)
  go_enter Try.func3, Try.ntmps3
  go_wp2_with fail
  change Calls _ _ _ (w.alloc (.cells (uCells u) 23)) _
  generalize w.alloc (.cells (uCells u) 23) = w1 at k l ⊢
  refine (HSp.out _).mono ?_
  rintro e w2 ⟨rfl, hb2⟩
  replace k := k.below hb2 k.lt
  replace l := l.trans (hb2.mono l.size)
  have kl := k.lt
  unfold uVal
  clear hb2 HSp
  skip
  have e0 : w2.cell? ⟨w.heap.size, 0, none⟩ = some (.string (st u.sch)) := k.cell 0
  have e1 : w2.cell? ⟨w.heap.size, 1, none⟩ = some (.string (st u.au)) := k.cell 1
  have e2 : w2.cell? ⟨w.heap.size, 2, none⟩ = some (.string (st u.pa)) := k.cell 2
  have e3 : w2.cell? ⟨w.heap.size, 3, none⟩ = some (.string (st u.qu)) := k.cell 3
  have e4 : w2.cell? ⟨w.heap.size, 4, none⟩ = some (.string (st u.fr)) := k.cell 4
  have e5 : w2.cell? ⟨w.heap.size, 5, none⟩ = some (.bool u.hs) := k.cell 5
  have e6 : w2.cell? ⟨w.heap.size, 6, none⟩ = some (.bool u.ha) := k.cell 6
  have e7 : w2.cell? ⟨w.heap.size, 7, none⟩ = some (.bool u.hq) := k.cell 7
  have e8 : w2.cell? ⟨w.heap.size, 8, none⟩ = some (.bool u.hf) := k.cell 8
  go_wp2_with fail
  clear e0 e1 e2 e3 e4 e5 e6 e7 e8
  change Calls _ _ _ (w2.alloc (.cells (uCells U) 23)) _
  have a := Blk.new w2 23 (uCells U)
  replace k := k.alloc (.cells (uCells U) 23)
  have hA := l.size
  replace l := l.alloc l.size (.cells (uCells U) 23)
  generalize w2.alloc (.cells (uCells U) 23) = w3 at k a l ⊢
  generalize w2.heap.size = A at a hA kl ⊢
  refine (HJ.out _).mono ?_
  rintro e w4 ⟨rfl, hb4⟩
  replace k := k.below hb4 k.lt
  replace a := a.below hb4 a.lt
  replace l := l.trans (hb4.mono l.size)
  clear hb4 HJ
  go_wp2_with fail
  refine (HD.out _).mono ?_
  rintro e w5 ⟨rfl, hb5⟩
  replace k := k.below hb5 k.lt
  replace a := a.below hb5 a.lt
  replace l := l.trans (hb5.mono l.size)
  clear hb5 HD
  go_wp2_with fail
  refine (HR.out _).mono ?_
  rintro e w6 ⟨rfl, hb6⟩
  replace k := k.below hb6 k.lt
  replace a := a.below hb6 a.lt
  replace l := l.trans (hb6.mono l.size)
  clear hb6 HR
  go_wp2_with fail
  refine (HSf.out _).mono ?_
  rintro e w7 ⟨rfl, hb7⟩
  replace k := k.below hb7 k.lt
  replace a := a.below hb7 a.lt
  replace l := l.trans (hb7.mono l.size)
  clear hb7 HSf
  go_wp2_with fail
  refine (HTs.out _).mono ?_
  rintro e w0 ⟨rfl, rfl⟩
  go_wp2_with fail
  refine (HTb.out _).mono ?_
  rintro e w0 ⟨rfl, rfl⟩
  clear HTs HTb
  rcases hcc with rfl | rfl
  all_goals
    have e0 : w7.cell? ⟨w.heap.size, 0, none⟩ = some (.string (st u.sch)) := k.cell 0
    have e1 : w7.cell? ⟨w.heap.size, 1, none⟩ = some (.string (st u.au)) := k.cell 1
    have e2 : w7.cell? ⟨w.heap.size, 2, none⟩ = some (.string (st u.pa)) := k.cell 2
    have e3 : w7.cell? ⟨w.heap.size, 3, none⟩ = some (.string (st u.qu)) := k.cell 3
    have e4 : w7.cell? ⟨w.heap.size, 4, none⟩ = some (.string (st u.fr)) := k.cell 4
    have e5 : w7.cell? ⟨w.heap.size, 5, none⟩ = some (.bool u.hs) := k.cell 5
    have e6 : w7.cell? ⟨w.heap.size, 6, none⟩ = some (.bool u.ha) := k.cell 6
    have e7 : w7.cell? ⟨w.heap.size, 7, none⟩ = some (.bool u.hq) := k.cell 7
    have e8 : w7.cell? ⟨w.heap.size, 8, none⟩ = some (.bool u.hf) := k.cell 8
    go_wp2_with fail
    clear e0 e1 e2 e3 e4 e5 e6 e7 e8
    refine (HRJ.out _).mono ?_
    rintro e w8 ⟨rfl, hb8⟩
    replace a := a.below hb8 a.lt
    replace l := l.trans (hb8.mono l.size)
    clear hb8 HRJ k
    have al := a.lt
    go_wp2_with fail
    change Calls _ _ _ (w8.alloc (.cells zCells 23)) _
    have c := Blk.new w8 23 zCells
    replace a := a.alloc (.cells zCells 23)
    have hB := l.size
    replace l := l.alloc l.size (.cells zCells 23)
    generalize w8.alloc (.cells zCells 23) = w9 at a c l ⊢
    generalize w8.heap.size = B at c hB al ⊢
    replace c : Blk w9 B 23 (uCells U) := by rw [← hU]; exact c
    refine (law_urlBegun _).mono ?_
    rintro e wf ⟨rfl, hbf⟩
    replace a := a.below hbf a.lt
    replace c := c.below hbf c.lt
    replace l := l.trans (hbf.mono l.size)
    clear hbf
    have x0 : wf.cell? ⟨A, 0, none⟩ = some (.string (st U.sch)) := a.cell 0
    have x1 : wf.cell? ⟨A, 1, none⟩ = some (.string (st U.au)) := a.cell 1
    have x2 : wf.cell? ⟨A, 2, none⟩ = some (.string (st U.pa)) := a.cell 2
    have x3 : wf.cell? ⟨A, 3, none⟩ = some (.string (st U.qu)) := a.cell 3
    have x4 : wf.cell? ⟨A, 4, none⟩ = some (.string (st U.fr)) := a.cell 4
    have x5 : wf.cell? ⟨A, 5, none⟩ = some (.bool U.hs) := a.cell 5
    have x6 : wf.cell? ⟨A, 6, none⟩ = some (.bool U.ha) := a.cell 6
    have x7 : wf.cell? ⟨A, 7, none⟩ = some (.bool U.hq) := a.cell 7
    have x8 : wf.cell? ⟨A, 8, none⟩ = some (.bool U.hf) := a.cell 8
    have y0 : wf.cell? ⟨B, 0, none⟩ = some (.string (st U.sch)) := c.cell 0
    have y1 : wf.cell? ⟨B, 1, none⟩ = some (.string (st U.au)) := c.cell 1
    have y2 : wf.cell? ⟨B, 2, none⟩ = some (.string (st U.pa)) := c.cell 2
    have y3 : wf.cell? ⟨B, 3, none⟩ = some (.string (st U.qu)) := c.cell 3
    have y4 : wf.cell? ⟨B, 4, none⟩ = some (.string (st U.fr)) := c.cell 4
    have y5 : wf.cell? ⟨B, 5, none⟩ = some (.bool U.hs) := c.cell 5
    have y6 : wf.cell? ⟨B, 6, none⟩ = some (.bool U.ha) := c.cell 6
    have y7 : wf.cell? ⟨B, 7, none⟩ = some (.bool U.hq) := c.cell 7
    have y8 : wf.cell? ⟨B, 8, none⟩ = some (.bool U.hf) := c.cell 8
    have hq := eql_self U
    have hg := guard_self U
    have hst : ∀ l, (st l).toList = l := fun l => Lib.toList_data _
    go_wp2_with fail
    go_ret
    exact ⟨ret_bool (by simp), l⟩
set_option maxHeartbeats 2000000 in
set_option maxRecDepth 100000 in
theorem tells_AN (s base : ByteArray) (u : Mg.U) (w : World) (hl : u.sch.length + u.au.length + u.pa.length + u.qu.length + u.fr.length ≤ 1048576) (hs : 3000 < s.size) (cb : Int) (hcb : (3000 < base.size ∧ cb = 2) ∨ (base.size ≤ 3000 ∧ cb = 0)) (hj : Mg.joinOk u = false) :
    Calls Try.prog 3 #[.string s, .string base, uVal u] w fun e w' => e = .returned (.bool true) ∧ Below w.heap.size w w' := by
  have HJ := Lib.hid (fun W => url_Join_no u W hl hj)
  have HRJ := Lib.hid (fun W => ref_JoinOf_is u _ hj hl W)
  obtain ⟨j, hjj⟩ : ∃ j, Mg.join u = j := ⟨_, rfl⟩
  rw [hjj] at HRJ
  clear hjj
  have HSp := Lib.hid (fun W => url_Split_long s W hs)
  have HD := Lib.hid (fun W => url_Dots_long s W hs)
  have HSf := Lib.hid (fun W => url_Safe_long s W hs)
  have HTs := Lib.hid (tooLong_yes s hs)
  have hcc : cb = 0 ∨ cb = 2 := by rcases hcb with ⟨_, h⟩ | ⟨_, h⟩ <;> omega
  have htb : ∀ W : World, Calls Try.prog 12 #[.string base] W fun e w' => e = .returned (.int .i64 cb) ∧ W = w' := by
    rcases hcb with ⟨h, rfl⟩ | ⟨h, rfl⟩
    · exact tooLong_yes base h
    · exact tooLong_no base h
  have HTb := Lib.hid htb
  clear htb hcb
  have HR := Lib.hid (fun W => url_Resolve_long base s W (.inr hs))
  obtain ⟨U, hU⟩ : ∃ U : Mg.U, Mg.nilU = U := ⟨_, rfl⟩
  rw [hU] at HSp
  clear hj
  unfold uVal
  have k := Blk.new w 23 (uCells u)
  have l := (Below.refl _ w).alloc (Nat.le_refl _) (.cells (uCells u) 23)
  go_enter Try.func3, Try.ntmps3
  go_wp2_with fail
  change Calls _ _ _ (w.alloc (.cells (uCells u) 23)) _
  generalize w.alloc (.cells (uCells u) 23) = w1 at k l ⊢
  refine (HSp.out _).mono ?_
  rintro e w2 ⟨rfl, hb2⟩
  replace k := k.below hb2 k.lt
  replace l := l.trans (hb2.mono l.size)
  have kl := k.lt
  unfold uVal
  clear hb2 HSp
  skip
  have e0 : w2.cell? ⟨w.heap.size, 0, none⟩ = some (.string (st u.sch)) := k.cell 0
  have e1 : w2.cell? ⟨w.heap.size, 1, none⟩ = some (.string (st u.au)) := k.cell 1
  have e2 : w2.cell? ⟨w.heap.size, 2, none⟩ = some (.string (st u.pa)) := k.cell 2
  have e3 : w2.cell? ⟨w.heap.size, 3, none⟩ = some (.string (st u.qu)) := k.cell 3
  have e4 : w2.cell? ⟨w.heap.size, 4, none⟩ = some (.string (st u.fr)) := k.cell 4
  have e5 : w2.cell? ⟨w.heap.size, 5, none⟩ = some (.bool u.hs) := k.cell 5
  have e6 : w2.cell? ⟨w.heap.size, 6, none⟩ = some (.bool u.ha) := k.cell 6
  have e7 : w2.cell? ⟨w.heap.size, 7, none⟩ = some (.bool u.hq) := k.cell 7
  have e8 : w2.cell? ⟨w.heap.size, 8, none⟩ = some (.bool u.hf) := k.cell 8
  go_wp2_with fail
  clear e0 e1 e2 e3 e4 e5 e6 e7 e8
  change Calls _ _ _ (w2.alloc (.cells (uCells U) 23)) _
  have a := Blk.new w2 23 (uCells U)
  replace k := k.alloc (.cells (uCells U) 23)
  have hA := l.size
  replace l := l.alloc l.size (.cells (uCells U) 23)
  generalize w2.alloc (.cells (uCells U) 23) = w3 at k a l ⊢
  generalize w2.heap.size = A at a hA kl ⊢
  refine (HJ.out _).mono ?_
  rintro e w4 ⟨rfl, hb4⟩
  replace k := k.below hb4 k.lt
  replace a := a.below hb4 a.lt
  replace l := l.trans (hb4.mono l.size)
  clear hb4 HJ
  go_wp2_with fail
  refine (HD.out _).mono ?_
  rintro e w5 ⟨rfl, hb5⟩
  replace k := k.below hb5 k.lt
  replace a := a.below hb5 a.lt
  replace l := l.trans (hb5.mono l.size)
  clear hb5 HD
  go_wp2_with fail
  refine (HR.out _).mono ?_
  rintro e w6 ⟨rfl, hb6⟩
  replace k := k.below hb6 k.lt
  replace a := a.below hb6 a.lt
  replace l := l.trans (hb6.mono l.size)
  clear hb6 HR
  go_wp2_with fail
  refine (HSf.out _).mono ?_
  rintro e w7 ⟨rfl, hb7⟩
  replace k := k.below hb7 k.lt
  replace a := a.below hb7 a.lt
  replace l := l.trans (hb7.mono l.size)
  clear hb7 HSf
  go_wp2_with fail
  refine (HTs.out _).mono ?_
  rintro e w0 ⟨rfl, rfl⟩
  go_wp2_with fail
  refine (HTb.out _).mono ?_
  rintro e w0 ⟨rfl, rfl⟩
  clear HTs HTb
  rcases hcc with rfl | rfl
  all_goals
    have e0 : w7.cell? ⟨w.heap.size, 0, none⟩ = some (.string (st u.sch)) := k.cell 0
    have e1 : w7.cell? ⟨w.heap.size, 1, none⟩ = some (.string (st u.au)) := k.cell 1
    have e2 : w7.cell? ⟨w.heap.size, 2, none⟩ = some (.string (st u.pa)) := k.cell 2
    have e3 : w7.cell? ⟨w.heap.size, 3, none⟩ = some (.string (st u.qu)) := k.cell 3
    have e4 : w7.cell? ⟨w.heap.size, 4, none⟩ = some (.string (st u.fr)) := k.cell 4
    have e5 : w7.cell? ⟨w.heap.size, 5, none⟩ = some (.bool u.hs) := k.cell 5
    have e6 : w7.cell? ⟨w.heap.size, 6, none⟩ = some (.bool u.ha) := k.cell 6
    have e7 : w7.cell? ⟨w.heap.size, 7, none⟩ = some (.bool u.hq) := k.cell 7
    have e8 : w7.cell? ⟨w.heap.size, 8, none⟩ = some (.bool u.hf) := k.cell 8
    go_wp2_with fail
    clear e0 e1 e2 e3 e4 e5 e6 e7 e8
    refine (HRJ.out _).mono ?_
    rintro e w8 ⟨rfl, hb8⟩
    replace a := a.below hb8 a.lt
    replace l := l.trans (hb8.mono l.size)
    clear hb8 HRJ k
    have al := a.lt
    go_wp2_with fail
    change Calls _ _ _ (w8.alloc (.cells zCells 23)) _
    have c := Blk.new w8 23 zCells
    replace a := a.alloc (.cells zCells 23)
    have hB := l.size
    replace l := l.alloc l.size (.cells zCells 23)
    generalize w8.alloc (.cells zCells 23) = w9 at a c l ⊢
    generalize w8.heap.size = B at c hB al ⊢
    replace c : Blk w9 B 23 (uCells U) := by rw [← hU]; exact c
    refine (law_urlBegun _).mono ?_
    rintro e wf ⟨rfl, hbf⟩
    replace a := a.below hbf a.lt
    replace c := c.below hbf c.lt
    replace l := l.trans (hbf.mono l.size)
    clear hbf
    have x0 : wf.cell? ⟨A, 0, none⟩ = some (.string (st U.sch)) := a.cell 0
    have x1 : wf.cell? ⟨A, 1, none⟩ = some (.string (st U.au)) := a.cell 1
    have x2 : wf.cell? ⟨A, 2, none⟩ = some (.string (st U.pa)) := a.cell 2
    have x3 : wf.cell? ⟨A, 3, none⟩ = some (.string (st U.qu)) := a.cell 3
    have x4 : wf.cell? ⟨A, 4, none⟩ = some (.string (st U.fr)) := a.cell 4
    have x5 : wf.cell? ⟨A, 5, none⟩ = some (.bool U.hs) := a.cell 5
    have x6 : wf.cell? ⟨A, 6, none⟩ = some (.bool U.ha) := a.cell 6
    have x7 : wf.cell? ⟨A, 7, none⟩ = some (.bool U.hq) := a.cell 7
    have x8 : wf.cell? ⟨A, 8, none⟩ = some (.bool U.hf) := a.cell 8
    have y0 : wf.cell? ⟨B, 0, none⟩ = some (.string (st U.sch)) := c.cell 0
    have y1 : wf.cell? ⟨B, 1, none⟩ = some (.string (st U.au)) := c.cell 1
    have y2 : wf.cell? ⟨B, 2, none⟩ = some (.string (st U.pa)) := c.cell 2
    have y3 : wf.cell? ⟨B, 3, none⟩ = some (.string (st U.qu)) := c.cell 3
    have y4 : wf.cell? ⟨B, 4, none⟩ = some (.string (st U.fr)) := c.cell 4
    have y5 : wf.cell? ⟨B, 5, none⟩ = some (.bool U.hs) := c.cell 5
    have y6 : wf.cell? ⟨B, 6, none⟩ = some (.bool U.ha) := c.cell 6
    have y7 : wf.cell? ⟨B, 7, none⟩ = some (.bool U.hq) := c.cell 7
    have y8 : wf.cell? ⟨B, 8, none⟩ = some (.bool U.hf) := c.cell 8
    have hq := eql_self U
    have hg := guard_self U
    have hst : ∀ l, (st l).toList = l := fun l => Lib.toList_data _
    go_wp2_with fail
    go_ret
    exact ⟨ret_bool (by simp), l⟩
set_option maxHeartbeats 2000000 in
set_option maxRecDepth 100000 in
theorem tells_BY (s base : ByteArray) (u : Mg.U) (w : World) (hl : u.sch.length + u.au.length + u.pa.length + u.qu.length + u.fr.length ≤ 1048576) (hs : s.size ≤ 3000) (hb : 3000 < base.size) (hj : Mg.joinOk u = true) :
    Calls Try.prog 3 #[.string s, .string base, uVal u] w fun e w' => e = .returned (.bool true) ∧ Below w.heap.size w w' := by
  have HJ := Lib.hid (fun W => url_Join_yes u W hl hj)
  have HRJ := Lib.hid (fun W => ref_JoinOf_is u _ hj hl W)
  obtain ⟨j, hjj⟩ : ∃ j, Mg.join u = j := ⟨_, rfl⟩
  rw [hjj] at HJ HRJ
  clear hjj
  have HSp := Lib.hid (fun W => url_Split_ok s W hs)
  have HD := Lib.hid (fun W => url_Dots_ok s W hs)
  have HSf := Lib.hid (fun W => url_Safe_ok s W hs)
  have HTs := Lib.hid (tooLong_no s hs)
  have HRS := Lib.hid (fun W => ref_SplitOf s W (by omega))
  have HRD := Lib.hid (fun W => ref_DotsOf s W (by omega))
  have HIs := Lib.hid (fun W => ref_IsSafe s W (by omega))
  have HTb := Lib.hid (tooLong_yes base hb)
  have HR := Lib.hid (fun W => url_Resolve_long base s W (.inl hb))
  obtain ⟨U, hU⟩ : ∃ U, Mg.split s.data.toList = U := ⟨_, rfl⟩
  rw [hU] at HSp HRS
  obtain ⟨d, hd⟩ : ∃ d, Mg.dots s.data.toList = d := ⟨_, rfl⟩
  rw [hd] at HD HRD
  obtain ⟨f, hf⟩ : ∃ f, Mg.isSafe s.data.toList = f := ⟨_, rfl⟩
  rw [hf] at HSf HIs
  clear hU hd hf
  clear hj
  unfold uVal
  have k := Blk.new w 23 (uCells u)
  have l := (Below.refl _ w).alloc (Nat.le_refl _) (.cells (uCells u) 23)
  go_enter Try.func3, Try.ntmps3
  go_wp2_with fail
  change Calls _ _ _ (w.alloc (.cells (uCells u) 23)) _
  generalize w.alloc (.cells (uCells u) 23) = w1 at k l ⊢
  refine (HSp.out _).mono ?_
  rintro e w2 ⟨rfl, hb2⟩
  replace k := k.below hb2 k.lt
  replace l := l.trans (hb2.mono l.size)
  have kl := k.lt
  unfold uVal
  clear hb2 HSp
  have e0 : w2.cell? ⟨w.heap.size, 0, none⟩ = some (.string (st u.sch)) := k.cell 0
  have e1 : w2.cell? ⟨w.heap.size, 1, none⟩ = some (.string (st u.au)) := k.cell 1
  have e2 : w2.cell? ⟨w.heap.size, 2, none⟩ = some (.string (st u.pa)) := k.cell 2
  have e3 : w2.cell? ⟨w.heap.size, 3, none⟩ = some (.string (st u.qu)) := k.cell 3
  have e4 : w2.cell? ⟨w.heap.size, 4, none⟩ = some (.string (st u.fr)) := k.cell 4
  have e5 : w2.cell? ⟨w.heap.size, 5, none⟩ = some (.bool u.hs) := k.cell 5
  have e6 : w2.cell? ⟨w.heap.size, 6, none⟩ = some (.bool u.ha) := k.cell 6
  have e7 : w2.cell? ⟨w.heap.size, 7, none⟩ = some (.bool u.hq) := k.cell 7
  have e8 : w2.cell? ⟨w.heap.size, 8, none⟩ = some (.bool u.hf) := k.cell 8
  go_wp2_with fail
  clear e0 e1 e2 e3 e4 e5 e6 e7 e8
  change Calls _ _ _ (w2.alloc (.cells (uCells U) 23)) _
  have a := Blk.new w2 23 (uCells U)
  replace k := k.alloc (.cells (uCells U) 23)
  have hA := l.size
  replace l := l.alloc l.size (.cells (uCells U) 23)
  generalize w2.alloc (.cells (uCells U) 23) = w3 at k a l ⊢
  generalize w2.heap.size = A at a hA kl ⊢
  refine (HJ.out _).mono ?_
  rintro e w4 ⟨rfl, hb4⟩
  replace k := k.below hb4 k.lt
  replace a := a.below hb4 a.lt
  replace l := l.trans (hb4.mono l.size)
  clear hb4 HJ
  go_wp2_with fail
  refine (HD.out _).mono ?_
  rintro e w5 ⟨rfl, hb5⟩
  replace k := k.below hb5 k.lt
  replace a := a.below hb5 a.lt
  replace l := l.trans (hb5.mono l.size)
  clear hb5 HD
  go_wp2_with fail
  refine (HR.out _).mono ?_
  rintro e w6 ⟨rfl, hb6⟩
  replace k := k.below hb6 k.lt
  replace a := a.below hb6 a.lt
  replace l := l.trans (hb6.mono l.size)
  clear hb6 HR
  go_wp2_with fail
  refine (HSf.out _).mono ?_
  rintro e w7 ⟨rfl, hb7⟩
  replace k := k.below hb7 k.lt
  replace a := a.below hb7 a.lt
  replace l := l.trans (hb7.mono l.size)
  clear hb7 HSf
  go_wp2_with fail
  refine (HTs.out _).mono ?_
  rintro e w0 ⟨rfl, rfl⟩
  go_wp2_with fail
  refine (HTb.out _).mono ?_
  rintro e w0 ⟨rfl, rfl⟩
  clear HTs HTb
  have e0 : w7.cell? ⟨w.heap.size, 0, none⟩ = some (.string (st u.sch)) := k.cell 0
  have e1 : w7.cell? ⟨w.heap.size, 1, none⟩ = some (.string (st u.au)) := k.cell 1
  have e2 : w7.cell? ⟨w.heap.size, 2, none⟩ = some (.string (st u.pa)) := k.cell 2
  have e3 : w7.cell? ⟨w.heap.size, 3, none⟩ = some (.string (st u.qu)) := k.cell 3
  have e4 : w7.cell? ⟨w.heap.size, 4, none⟩ = some (.string (st u.fr)) := k.cell 4
  have e5 : w7.cell? ⟨w.heap.size, 5, none⟩ = some (.bool u.hs) := k.cell 5
  have e6 : w7.cell? ⟨w.heap.size, 6, none⟩ = some (.bool u.ha) := k.cell 6
  have e7 : w7.cell? ⟨w.heap.size, 7, none⟩ = some (.bool u.hq) := k.cell 7
  have e8 : w7.cell? ⟨w.heap.size, 8, none⟩ = some (.bool u.hf) := k.cell 8
  go_wp2_with fail
  clear e0 e1 e2 e3 e4 e5 e6 e7 e8
  refine (HRJ.out _).mono ?_
  rintro e w8 ⟨rfl, hb8⟩
  replace a := a.below hb8 a.lt
  replace l := l.trans (hb8.mono l.size)
  clear hb8 HRJ k
  have al := a.lt
  go_wp2_with fail
  change Calls _ _ _ (w8.alloc (.cells zCells 23)) _
  have c := Blk.new w8 23 zCells
  replace a := a.alloc (.cells zCells 23)
  have hB := l.size
  replace l := l.alloc l.size (.cells zCells 23)
  generalize w8.alloc (.cells zCells 23) = w9 at a c l ⊢
  generalize w8.heap.size = B at c hB al ⊢
  refine (HRS.out _).mono ?_
  rintro e wa ⟨rfl, hba⟩
  replace a := a.below hba a.lt
  replace c := c.below hba c.lt
  replace l := l.trans (hba.mono l.size)
  unfold uVal
  clear hba HRS
  go_wp2_with fail
  refine (HRD.out _).mono ?_
  rintro e wb ⟨rfl, n, rfl⟩
  replace a := a.drewN n
  replace c := c.drewN n
  replace l := below_drewN l n
  generalize wa.drewN n = wb at a c l ⊢
  clear HRD
  have z0 : wb.cell? ⟨B, 0, none⟩ = some (.string (st [])) := c.cell 0
  have z1 : wb.cell? ⟨B, 1, none⟩ = some (.string (st [])) := c.cell 1
  have z2 : wb.cell? ⟨B, 2, none⟩ = some (.string (st [])) := c.cell 2
  have z3 : wb.cell? ⟨B, 3, none⟩ = some (.string (st [])) := c.cell 3
  have z4 : wb.cell? ⟨B, 4, none⟩ = some (.string (st [])) := c.cell 4
  have z5 : wb.cell? ⟨B, 5, none⟩ = some (.bool false) := c.cell 5
  have z6 : wb.cell? ⟨B, 6, none⟩ = some (.bool false) := c.cell 6
  have z7 : wb.cell? ⟨B, 7, none⟩ = some (.bool false) := c.cell 7
  have z8 : wb.cell? ⟨B, 8, none⟩ = some (.bool false) := c.cell 8
  have y : ∀ i, wb.frozen? ⟨B, i, none⟩ = false := c.frozen
  go_wp2_with fail
  clear z0 z1 z2 z3 z4 z5 z6 z7 z8
  clear y
  change Calls _ _ _ (((((((((wb.setCell ⟨B, 0, none⟩ (.string (st U.sch))).setCell ⟨B, 1, none⟩ (.string (st U.au))).setCell ⟨B, 2, none⟩ (.string (st U.pa))).setCell ⟨B, 3, none⟩ (.string (st U.qu))).setCell ⟨B, 4, none⟩ (.string (st U.fr))).setCell ⟨B, 5, none⟩ (.bool U.hs)).setCell ⟨B, 6, none⟩ (.bool U.ha)).setCell ⟨B, 7, none⟩ (.bool U.hq)).setCell ⟨B, 8, none⟩ (.bool U.hf)) _
  replace a := blk_far9 a (Nat.ne_of_lt al) U
  replace c := blk_fill c U
  replace l := below_far9 l hB U
  generalize (((((((((wb.setCell ⟨B, 0, none⟩ (.string (st U.sch))).setCell ⟨B, 1, none⟩ (.string (st U.au))).setCell ⟨B, 2, none⟩ (.string (st U.pa))).setCell ⟨B, 3, none⟩ (.string (st U.qu))).setCell ⟨B, 4, none⟩ (.string (st U.fr))).setCell ⟨B, 5, none⟩ (.bool U.hs)).setCell ⟨B, 6, none⟩ (.bool U.ha)).setCell ⟨B, 7, none⟩ (.bool U.hq)).setCell ⟨B, 8, none⟩ (.bool U.hf)) = wc at a c l ⊢
  refine (law_urlBegun _).mono ?_
  rintro e wf ⟨rfl, hbf⟩
  replace a := a.below hbf a.lt
  replace c := c.below hbf c.lt
  replace l := l.trans (hbf.mono l.size)
  clear hbf
  have x0 : wf.cell? ⟨A, 0, none⟩ = some (.string (st U.sch)) := a.cell 0
  have x1 : wf.cell? ⟨A, 1, none⟩ = some (.string (st U.au)) := a.cell 1
  have x2 : wf.cell? ⟨A, 2, none⟩ = some (.string (st U.pa)) := a.cell 2
  have x3 : wf.cell? ⟨A, 3, none⟩ = some (.string (st U.qu)) := a.cell 3
  have x4 : wf.cell? ⟨A, 4, none⟩ = some (.string (st U.fr)) := a.cell 4
  have x5 : wf.cell? ⟨A, 5, none⟩ = some (.bool U.hs) := a.cell 5
  have x6 : wf.cell? ⟨A, 6, none⟩ = some (.bool U.ha) := a.cell 6
  have x7 : wf.cell? ⟨A, 7, none⟩ = some (.bool U.hq) := a.cell 7
  have x8 : wf.cell? ⟨A, 8, none⟩ = some (.bool U.hf) := a.cell 8
  have y0 : wf.cell? ⟨B, 0, none⟩ = some (.string (st U.sch)) := c.cell 0
  have y1 : wf.cell? ⟨B, 1, none⟩ = some (.string (st U.au)) := c.cell 1
  have y2 : wf.cell? ⟨B, 2, none⟩ = some (.string (st U.pa)) := c.cell 2
  have y3 : wf.cell? ⟨B, 3, none⟩ = some (.string (st U.qu)) := c.cell 3
  have y4 : wf.cell? ⟨B, 4, none⟩ = some (.string (st U.fr)) := c.cell 4
  have y5 : wf.cell? ⟨B, 5, none⟩ = some (.bool U.hs) := c.cell 5
  have y6 : wf.cell? ⟨B, 6, none⟩ = some (.bool U.ha) := c.cell 6
  have y7 : wf.cell? ⟨B, 7, none⟩ = some (.bool U.hq) := c.cell 7
  have y8 : wf.cell? ⟨B, 8, none⟩ = some (.bool U.hf) := c.cell 8
  have hq := eql_self U
  have hg := guard_self U
  have hst : ∀ l, (st l).toList = l := fun l => Lib.toList_data _
  go_wp2_with fail
  refine (HIs.out _).mono ?_
  rintro e wg ⟨rfl, hbg⟩
  replace l := l.trans (hbg.mono l.size)
  clear hbg
  go_wp2_with fail
  go_ret
  exact ⟨ret_bool (by simp), l⟩
set_option maxHeartbeats 2000000 in
set_option maxRecDepth 100000 in
theorem tells_BN (s base : ByteArray) (u : Mg.U) (w : World) (hl : u.sch.length + u.au.length + u.pa.length + u.qu.length + u.fr.length ≤ 1048576) (hs : s.size ≤ 3000) (hb : 3000 < base.size) (hj : Mg.joinOk u = false) :
    Calls Try.prog 3 #[.string s, .string base, uVal u] w fun e w' => e = .returned (.bool true) ∧ Below w.heap.size w w' := by
  have HJ := Lib.hid (fun W => url_Join_no u W hl hj)
  have HRJ := Lib.hid (fun W => ref_JoinOf_is u _ hj hl W)
  obtain ⟨j, hjj⟩ : ∃ j, Mg.join u = j := ⟨_, rfl⟩
  rw [hjj] at HRJ
  clear hjj
  have HSp := Lib.hid (fun W => url_Split_ok s W hs)
  have HD := Lib.hid (fun W => url_Dots_ok s W hs)
  have HSf := Lib.hid (fun W => url_Safe_ok s W hs)
  have HTs := Lib.hid (tooLong_no s hs)
  have HRS := Lib.hid (fun W => ref_SplitOf s W (by omega))
  have HRD := Lib.hid (fun W => ref_DotsOf s W (by omega))
  have HIs := Lib.hid (fun W => ref_IsSafe s W (by omega))
  have HTb := Lib.hid (tooLong_yes base hb)
  have HR := Lib.hid (fun W => url_Resolve_long base s W (.inl hb))
  obtain ⟨U, hU⟩ : ∃ U, Mg.split s.data.toList = U := ⟨_, rfl⟩
  rw [hU] at HSp HRS
  obtain ⟨d, hd⟩ : ∃ d, Mg.dots s.data.toList = d := ⟨_, rfl⟩
  rw [hd] at HD HRD
  obtain ⟨f, hf⟩ : ∃ f, Mg.isSafe s.data.toList = f := ⟨_, rfl⟩
  rw [hf] at HSf HIs
  clear hU hd hf
  clear hj
  unfold uVal
  have k := Blk.new w 23 (uCells u)
  have l := (Below.refl _ w).alloc (Nat.le_refl _) (.cells (uCells u) 23)
  go_enter Try.func3, Try.ntmps3
  go_wp2_with fail
  change Calls _ _ _ (w.alloc (.cells (uCells u) 23)) _
  generalize w.alloc (.cells (uCells u) 23) = w1 at k l ⊢
  refine (HSp.out _).mono ?_
  rintro e w2 ⟨rfl, hb2⟩
  replace k := k.below hb2 k.lt
  replace l := l.trans (hb2.mono l.size)
  have kl := k.lt
  unfold uVal
  clear hb2 HSp
  have e0 : w2.cell? ⟨w.heap.size, 0, none⟩ = some (.string (st u.sch)) := k.cell 0
  have e1 : w2.cell? ⟨w.heap.size, 1, none⟩ = some (.string (st u.au)) := k.cell 1
  have e2 : w2.cell? ⟨w.heap.size, 2, none⟩ = some (.string (st u.pa)) := k.cell 2
  have e3 : w2.cell? ⟨w.heap.size, 3, none⟩ = some (.string (st u.qu)) := k.cell 3
  have e4 : w2.cell? ⟨w.heap.size, 4, none⟩ = some (.string (st u.fr)) := k.cell 4
  have e5 : w2.cell? ⟨w.heap.size, 5, none⟩ = some (.bool u.hs) := k.cell 5
  have e6 : w2.cell? ⟨w.heap.size, 6, none⟩ = some (.bool u.ha) := k.cell 6
  have e7 : w2.cell? ⟨w.heap.size, 7, none⟩ = some (.bool u.hq) := k.cell 7
  have e8 : w2.cell? ⟨w.heap.size, 8, none⟩ = some (.bool u.hf) := k.cell 8
  go_wp2_with fail
  clear e0 e1 e2 e3 e4 e5 e6 e7 e8
  change Calls _ _ _ (w2.alloc (.cells (uCells U) 23)) _
  have a := Blk.new w2 23 (uCells U)
  replace k := k.alloc (.cells (uCells U) 23)
  have hA := l.size
  replace l := l.alloc l.size (.cells (uCells U) 23)
  generalize w2.alloc (.cells (uCells U) 23) = w3 at k a l ⊢
  generalize w2.heap.size = A at a hA kl ⊢
  refine (HJ.out _).mono ?_
  rintro e w4 ⟨rfl, hb4⟩
  replace k := k.below hb4 k.lt
  replace a := a.below hb4 a.lt
  replace l := l.trans (hb4.mono l.size)
  clear hb4 HJ
  go_wp2_with fail
  refine (HD.out _).mono ?_
  rintro e w5 ⟨rfl, hb5⟩
  replace k := k.below hb5 k.lt
  replace a := a.below hb5 a.lt
  replace l := l.trans (hb5.mono l.size)
  clear hb5 HD
  go_wp2_with fail
  refine (HR.out _).mono ?_
  rintro e w6 ⟨rfl, hb6⟩
  replace k := k.below hb6 k.lt
  replace a := a.below hb6 a.lt
  replace l := l.trans (hb6.mono l.size)
  clear hb6 HR
  go_wp2_with fail
  refine (HSf.out _).mono ?_
  rintro e w7 ⟨rfl, hb7⟩
  replace k := k.below hb7 k.lt
  replace a := a.below hb7 a.lt
  replace l := l.trans (hb7.mono l.size)
  clear hb7 HSf
  go_wp2_with fail
  refine (HTs.out _).mono ?_
  rintro e w0 ⟨rfl, rfl⟩
  go_wp2_with fail
  refine (HTb.out _).mono ?_
  rintro e w0 ⟨rfl, rfl⟩
  clear HTs HTb
  have e0 : w7.cell? ⟨w.heap.size, 0, none⟩ = some (.string (st u.sch)) := k.cell 0
  have e1 : w7.cell? ⟨w.heap.size, 1, none⟩ = some (.string (st u.au)) := k.cell 1
  have e2 : w7.cell? ⟨w.heap.size, 2, none⟩ = some (.string (st u.pa)) := k.cell 2
  have e3 : w7.cell? ⟨w.heap.size, 3, none⟩ = some (.string (st u.qu)) := k.cell 3
  have e4 : w7.cell? ⟨w.heap.size, 4, none⟩ = some (.string (st u.fr)) := k.cell 4
  have e5 : w7.cell? ⟨w.heap.size, 5, none⟩ = some (.bool u.hs) := k.cell 5
  have e6 : w7.cell? ⟨w.heap.size, 6, none⟩ = some (.bool u.ha) := k.cell 6
  have e7 : w7.cell? ⟨w.heap.size, 7, none⟩ = some (.bool u.hq) := k.cell 7
  have e8 : w7.cell? ⟨w.heap.size, 8, none⟩ = some (.bool u.hf) := k.cell 8
  go_wp2_with fail
  clear e0 e1 e2 e3 e4 e5 e6 e7 e8
  refine (HRJ.out _).mono ?_
  rintro e w8 ⟨rfl, hb8⟩
  replace a := a.below hb8 a.lt
  replace l := l.trans (hb8.mono l.size)
  clear hb8 HRJ k
  have al := a.lt
  go_wp2_with fail
  change Calls _ _ _ (w8.alloc (.cells zCells 23)) _
  have c := Blk.new w8 23 zCells
  replace a := a.alloc (.cells zCells 23)
  have hB := l.size
  replace l := l.alloc l.size (.cells zCells 23)
  generalize w8.alloc (.cells zCells 23) = w9 at a c l ⊢
  generalize w8.heap.size = B at c hB al ⊢
  refine (HRS.out _).mono ?_
  rintro e wa ⟨rfl, hba⟩
  replace a := a.below hba a.lt
  replace c := c.below hba c.lt
  replace l := l.trans (hba.mono l.size)
  unfold uVal
  clear hba HRS
  go_wp2_with fail
  refine (HRD.out _).mono ?_
  rintro e wb ⟨rfl, n, rfl⟩
  replace a := a.drewN n
  replace c := c.drewN n
  replace l := below_drewN l n
  generalize wa.drewN n = wb at a c l ⊢
  clear HRD
  have z0 : wb.cell? ⟨B, 0, none⟩ = some (.string (st [])) := c.cell 0
  have z1 : wb.cell? ⟨B, 1, none⟩ = some (.string (st [])) := c.cell 1
  have z2 : wb.cell? ⟨B, 2, none⟩ = some (.string (st [])) := c.cell 2
  have z3 : wb.cell? ⟨B, 3, none⟩ = some (.string (st [])) := c.cell 3
  have z4 : wb.cell? ⟨B, 4, none⟩ = some (.string (st [])) := c.cell 4
  have z5 : wb.cell? ⟨B, 5, none⟩ = some (.bool false) := c.cell 5
  have z6 : wb.cell? ⟨B, 6, none⟩ = some (.bool false) := c.cell 6
  have z7 : wb.cell? ⟨B, 7, none⟩ = some (.bool false) := c.cell 7
  have z8 : wb.cell? ⟨B, 8, none⟩ = some (.bool false) := c.cell 8
  have y : ∀ i, wb.frozen? ⟨B, i, none⟩ = false := c.frozen
  go_wp2_with fail
  clear z0 z1 z2 z3 z4 z5 z6 z7 z8
  clear y
  change Calls _ _ _ (((((((((wb.setCell ⟨B, 0, none⟩ (.string (st U.sch))).setCell ⟨B, 1, none⟩ (.string (st U.au))).setCell ⟨B, 2, none⟩ (.string (st U.pa))).setCell ⟨B, 3, none⟩ (.string (st U.qu))).setCell ⟨B, 4, none⟩ (.string (st U.fr))).setCell ⟨B, 5, none⟩ (.bool U.hs)).setCell ⟨B, 6, none⟩ (.bool U.ha)).setCell ⟨B, 7, none⟩ (.bool U.hq)).setCell ⟨B, 8, none⟩ (.bool U.hf)) _
  replace a := blk_far9 a (Nat.ne_of_lt al) U
  replace c := blk_fill c U
  replace l := below_far9 l hB U
  generalize (((((((((wb.setCell ⟨B, 0, none⟩ (.string (st U.sch))).setCell ⟨B, 1, none⟩ (.string (st U.au))).setCell ⟨B, 2, none⟩ (.string (st U.pa))).setCell ⟨B, 3, none⟩ (.string (st U.qu))).setCell ⟨B, 4, none⟩ (.string (st U.fr))).setCell ⟨B, 5, none⟩ (.bool U.hs)).setCell ⟨B, 6, none⟩ (.bool U.ha)).setCell ⟨B, 7, none⟩ (.bool U.hq)).setCell ⟨B, 8, none⟩ (.bool U.hf)) = wc at a c l ⊢
  refine (law_urlBegun _).mono ?_
  rintro e wf ⟨rfl, hbf⟩
  replace a := a.below hbf a.lt
  replace c := c.below hbf c.lt
  replace l := l.trans (hbf.mono l.size)
  clear hbf
  have x0 : wf.cell? ⟨A, 0, none⟩ = some (.string (st U.sch)) := a.cell 0
  have x1 : wf.cell? ⟨A, 1, none⟩ = some (.string (st U.au)) := a.cell 1
  have x2 : wf.cell? ⟨A, 2, none⟩ = some (.string (st U.pa)) := a.cell 2
  have x3 : wf.cell? ⟨A, 3, none⟩ = some (.string (st U.qu)) := a.cell 3
  have x4 : wf.cell? ⟨A, 4, none⟩ = some (.string (st U.fr)) := a.cell 4
  have x5 : wf.cell? ⟨A, 5, none⟩ = some (.bool U.hs) := a.cell 5
  have x6 : wf.cell? ⟨A, 6, none⟩ = some (.bool U.ha) := a.cell 6
  have x7 : wf.cell? ⟨A, 7, none⟩ = some (.bool U.hq) := a.cell 7
  have x8 : wf.cell? ⟨A, 8, none⟩ = some (.bool U.hf) := a.cell 8
  have y0 : wf.cell? ⟨B, 0, none⟩ = some (.string (st U.sch)) := c.cell 0
  have y1 : wf.cell? ⟨B, 1, none⟩ = some (.string (st U.au)) := c.cell 1
  have y2 : wf.cell? ⟨B, 2, none⟩ = some (.string (st U.pa)) := c.cell 2
  have y3 : wf.cell? ⟨B, 3, none⟩ = some (.string (st U.qu)) := c.cell 3
  have y4 : wf.cell? ⟨B, 4, none⟩ = some (.string (st U.fr)) := c.cell 4
  have y5 : wf.cell? ⟨B, 5, none⟩ = some (.bool U.hs) := c.cell 5
  have y6 : wf.cell? ⟨B, 6, none⟩ = some (.bool U.ha) := c.cell 6
  have y7 : wf.cell? ⟨B, 7, none⟩ = some (.bool U.hq) := c.cell 7
  have y8 : wf.cell? ⟨B, 8, none⟩ = some (.bool U.hf) := c.cell 8
  have hq := eql_self U
  have hg := guard_self U
  have hst : ∀ l, (st l).toList = l := fun l => Lib.toList_data _
  go_wp2_with fail
  refine (HIs.out _).mono ?_
  rintro e wg ⟨rfl, hbg⟩
  replace l := l.trans (hbg.mono l.size)
  clear hbg
  go_wp2_with fail
  go_ret
  exact ⟨ret_bool (by simp), l⟩
set_option maxHeartbeats 2000000 in
set_option maxRecDepth 100000 in
theorem tells_CY (s base : ByteArray) (u : Mg.U) (w : World) (hl : u.sch.length + u.au.length + u.pa.length + u.qu.length + u.fr.length ≤ 1048576) (hs : s.size ≤ 3000) (hb : base.size ≤ 3000) (h0 : Mg.schOf base.data.toList = 0) (hj : Mg.joinOk u = true) :
    Calls Try.prog 3 #[.string s, .string base, uVal u] w fun e w' => e = .returned (.bool true) ∧ Below w.heap.size w w' := by
  have HJ := Lib.hid (fun W => url_Join_yes u W hl hj)
  have HRJ := Lib.hid (fun W => ref_JoinOf_is u _ hj hl W)
  obtain ⟨j, hjj⟩ : ∃ j, Mg.join u = j := ⟨_, rfl⟩
  rw [hjj] at HJ HRJ
  clear hjj
  have HSp := Lib.hid (fun W => url_Split_ok s W hs)
  have HD := Lib.hid (fun W => url_Dots_ok s W hs)
  have HSf := Lib.hid (fun W => url_Safe_ok s W hs)
  have HTs := Lib.hid (tooLong_no s hs)
  have HRS := Lib.hid (fun W => ref_SplitOf s W (by omega))
  have HRD := Lib.hid (fun W => ref_DotsOf s W (by omega))
  have HIs := Lib.hid (fun W => ref_IsSafe s W (by omega))
  have HTb := Lib.hid (tooLong_no base hb)
  have HRB := Lib.hid (fun W => ref_SplitOf base W (by omega))
  have HR := Lib.hid (fun W => url_Resolve_bare base s W hb hs h0)
  obtain ⟨V, hV⟩ : ∃ V, Mg.split base.data.toList = V := ⟨_, rfl⟩
  have hvs : V.hs = false := by rw [← hV, hs_def]; simpa using h0
  rw [hV] at HRB
  clear hV
  obtain ⟨U, hU⟩ : ∃ U, Mg.split s.data.toList = U := ⟨_, rfl⟩
  rw [hU] at HSp HRS
  obtain ⟨d, hd⟩ : ∃ d, Mg.dots s.data.toList = d := ⟨_, rfl⟩
  rw [hd] at HD HRD
  obtain ⟨f, hf⟩ : ∃ f, Mg.isSafe s.data.toList = f := ⟨_, rfl⟩
  rw [hf] at HSf HIs
  clear hU hd hf
  have HVS := Lib.hid hvs
  clear hvs
  clear hj h0
  unfold uVal
  have k := Blk.new w 23 (uCells u)
  have l := (Below.refl _ w).alloc (Nat.le_refl _) (.cells (uCells u) 23)
  go_enter Try.func3, Try.ntmps3
  go_wp2_with fail
  change Calls _ _ _ (w.alloc (.cells (uCells u) 23)) _
  generalize w.alloc (.cells (uCells u) 23) = w1 at k l ⊢
  refine (HSp.out _).mono ?_
  rintro e w2 ⟨rfl, hb2⟩
  replace k := k.below hb2 k.lt
  replace l := l.trans (hb2.mono l.size)
  have kl := k.lt
  unfold uVal
  clear hb2 HSp
  have e0 : w2.cell? ⟨w.heap.size, 0, none⟩ = some (.string (st u.sch)) := k.cell 0
  have e1 : w2.cell? ⟨w.heap.size, 1, none⟩ = some (.string (st u.au)) := k.cell 1
  have e2 : w2.cell? ⟨w.heap.size, 2, none⟩ = some (.string (st u.pa)) := k.cell 2
  have e3 : w2.cell? ⟨w.heap.size, 3, none⟩ = some (.string (st u.qu)) := k.cell 3
  have e4 : w2.cell? ⟨w.heap.size, 4, none⟩ = some (.string (st u.fr)) := k.cell 4
  have e5 : w2.cell? ⟨w.heap.size, 5, none⟩ = some (.bool u.hs) := k.cell 5
  have e6 : w2.cell? ⟨w.heap.size, 6, none⟩ = some (.bool u.ha) := k.cell 6
  have e7 : w2.cell? ⟨w.heap.size, 7, none⟩ = some (.bool u.hq) := k.cell 7
  have e8 : w2.cell? ⟨w.heap.size, 8, none⟩ = some (.bool u.hf) := k.cell 8
  go_wp2_with fail
  clear e0 e1 e2 e3 e4 e5 e6 e7 e8
  change Calls _ _ _ (w2.alloc (.cells (uCells U) 23)) _
  have a := Blk.new w2 23 (uCells U)
  replace k := k.alloc (.cells (uCells U) 23)
  have hA := l.size
  replace l := l.alloc l.size (.cells (uCells U) 23)
  generalize w2.alloc (.cells (uCells U) 23) = w3 at k a l ⊢
  generalize w2.heap.size = A at a hA kl ⊢
  refine (HJ.out _).mono ?_
  rintro e w4 ⟨rfl, hb4⟩
  replace k := k.below hb4 k.lt
  replace a := a.below hb4 a.lt
  replace l := l.trans (hb4.mono l.size)
  clear hb4 HJ
  go_wp2_with fail
  refine (HD.out _).mono ?_
  rintro e w5 ⟨rfl, hb5⟩
  replace k := k.below hb5 k.lt
  replace a := a.below hb5 a.lt
  replace l := l.trans (hb5.mono l.size)
  clear hb5 HD
  go_wp2_with fail
  refine (HR.out _).mono ?_
  rintro e w6 ⟨rfl, hb6⟩
  replace k := k.below hb6 k.lt
  replace a := a.below hb6 a.lt
  replace l := l.trans (hb6.mono l.size)
  clear hb6 HR
  go_wp2_with fail
  refine (HSf.out _).mono ?_
  rintro e w7 ⟨rfl, hb7⟩
  replace k := k.below hb7 k.lt
  replace a := a.below hb7 a.lt
  replace l := l.trans (hb7.mono l.size)
  clear hb7 HSf
  go_wp2_with fail
  refine (HTs.out _).mono ?_
  rintro e w0 ⟨rfl, rfl⟩
  go_wp2_with fail
  refine (HTb.out _).mono ?_
  rintro e w0 ⟨rfl, rfl⟩
  clear HTs HTb
  have e0 : w7.cell? ⟨w.heap.size, 0, none⟩ = some (.string (st u.sch)) := k.cell 0
  have e1 : w7.cell? ⟨w.heap.size, 1, none⟩ = some (.string (st u.au)) := k.cell 1
  have e2 : w7.cell? ⟨w.heap.size, 2, none⟩ = some (.string (st u.pa)) := k.cell 2
  have e3 : w7.cell? ⟨w.heap.size, 3, none⟩ = some (.string (st u.qu)) := k.cell 3
  have e4 : w7.cell? ⟨w.heap.size, 4, none⟩ = some (.string (st u.fr)) := k.cell 4
  have e5 : w7.cell? ⟨w.heap.size, 5, none⟩ = some (.bool u.hs) := k.cell 5
  have e6 : w7.cell? ⟨w.heap.size, 6, none⟩ = some (.bool u.ha) := k.cell 6
  have e7 : w7.cell? ⟨w.heap.size, 7, none⟩ = some (.bool u.hq) := k.cell 7
  have e8 : w7.cell? ⟨w.heap.size, 8, none⟩ = some (.bool u.hf) := k.cell 8
  go_wp2_with fail
  clear e0 e1 e2 e3 e4 e5 e6 e7 e8
  refine (HRJ.out _).mono ?_
  rintro e w8 ⟨rfl, hb8⟩
  replace a := a.below hb8 a.lt
  replace l := l.trans (hb8.mono l.size)
  clear hb8 HRJ k
  have al := a.lt
  go_wp2_with fail
  change Calls _ _ _ (w8.alloc (.cells zCells 23)) _
  have c := Blk.new w8 23 zCells
  replace a := a.alloc (.cells zCells 23)
  have hB := l.size
  replace l := l.alloc l.size (.cells zCells 23)
  generalize w8.alloc (.cells zCells 23) = w9 at a c l ⊢
  generalize w8.heap.size = B at c hB al ⊢
  refine (HRS.out _).mono ?_
  rintro e wa ⟨rfl, hba⟩
  replace a := a.below hba a.lt
  replace c := c.below hba c.lt
  replace l := l.trans (hba.mono l.size)
  unfold uVal
  clear hba HRS
  go_wp2_with fail
  refine (HRD.out _).mono ?_
  rintro e wb ⟨rfl, n, rfl⟩
  replace a := a.drewN n
  replace c := c.drewN n
  replace l := below_drewN l n
  generalize wa.drewN n = wb at a c l ⊢
  clear HRD
  have z0 : wb.cell? ⟨B, 0, none⟩ = some (.string (st [])) := c.cell 0
  have z1 : wb.cell? ⟨B, 1, none⟩ = some (.string (st [])) := c.cell 1
  have z2 : wb.cell? ⟨B, 2, none⟩ = some (.string (st [])) := c.cell 2
  have z3 : wb.cell? ⟨B, 3, none⟩ = some (.string (st [])) := c.cell 3
  have z4 : wb.cell? ⟨B, 4, none⟩ = some (.string (st [])) := c.cell 4
  have z5 : wb.cell? ⟨B, 5, none⟩ = some (.bool false) := c.cell 5
  have z6 : wb.cell? ⟨B, 6, none⟩ = some (.bool false) := c.cell 6
  have z7 : wb.cell? ⟨B, 7, none⟩ = some (.bool false) := c.cell 7
  have z8 : wb.cell? ⟨B, 8, none⟩ = some (.bool false) := c.cell 8
  have y : ∀ i, wb.frozen? ⟨B, i, none⟩ = false := c.frozen
  go_wp2_with fail
  clear z0 z1 z2 z3 z4 z5 z6 z7 z8
  clear y
  change Calls _ _ _ (((((((((wb.setCell ⟨B, 0, none⟩ (.string (st U.sch))).setCell ⟨B, 1, none⟩ (.string (st U.au))).setCell ⟨B, 2, none⟩ (.string (st U.pa))).setCell ⟨B, 3, none⟩ (.string (st U.qu))).setCell ⟨B, 4, none⟩ (.string (st U.fr))).setCell ⟨B, 5, none⟩ (.bool U.hs)).setCell ⟨B, 6, none⟩ (.bool U.ha)).setCell ⟨B, 7, none⟩ (.bool U.hq)).setCell ⟨B, 8, none⟩ (.bool U.hf)) _
  replace a := blk_far9 a (Nat.ne_of_lt al) U
  replace c := blk_fill c U
  replace l := below_far9 l hB U
  generalize (((((((((wb.setCell ⟨B, 0, none⟩ (.string (st U.sch))).setCell ⟨B, 1, none⟩ (.string (st U.au))).setCell ⟨B, 2, none⟩ (.string (st U.pa))).setCell ⟨B, 3, none⟩ (.string (st U.qu))).setCell ⟨B, 4, none⟩ (.string (st U.fr))).setCell ⟨B, 5, none⟩ (.bool U.hs)).setCell ⟨B, 6, none⟩ (.bool U.ha)).setCell ⟨B, 7, none⟩ (.bool U.hq)).setCell ⟨B, 8, none⟩ (.bool U.hf)) = wc at a c l ⊢
  refine (HRB.out _).mono ?_
  rintro e wd ⟨rfl, hbd⟩
  replace a := a.below hbd a.lt
  replace c := c.below hbd c.lt
  replace l := l.trans (hbd.mono l.size)
  unfold uVal
  rw [HVS.out]
  clear hbd HRB
  have hfd := field_hs V false
  go_wp2_with fail
  refine (law_urlBegun _).mono ?_
  rintro e wf ⟨rfl, hbf⟩
  replace a := a.below hbf a.lt
  replace c := c.below hbf c.lt
  replace l := l.trans (hbf.mono l.size)
  clear hbf
  have x0 : wf.cell? ⟨A, 0, none⟩ = some (.string (st U.sch)) := a.cell 0
  have x1 : wf.cell? ⟨A, 1, none⟩ = some (.string (st U.au)) := a.cell 1
  have x2 : wf.cell? ⟨A, 2, none⟩ = some (.string (st U.pa)) := a.cell 2
  have x3 : wf.cell? ⟨A, 3, none⟩ = some (.string (st U.qu)) := a.cell 3
  have x4 : wf.cell? ⟨A, 4, none⟩ = some (.string (st U.fr)) := a.cell 4
  have x5 : wf.cell? ⟨A, 5, none⟩ = some (.bool U.hs) := a.cell 5
  have x6 : wf.cell? ⟨A, 6, none⟩ = some (.bool U.ha) := a.cell 6
  have x7 : wf.cell? ⟨A, 7, none⟩ = some (.bool U.hq) := a.cell 7
  have x8 : wf.cell? ⟨A, 8, none⟩ = some (.bool U.hf) := a.cell 8
  have y0 : wf.cell? ⟨B, 0, none⟩ = some (.string (st U.sch)) := c.cell 0
  have y1 : wf.cell? ⟨B, 1, none⟩ = some (.string (st U.au)) := c.cell 1
  have y2 : wf.cell? ⟨B, 2, none⟩ = some (.string (st U.pa)) := c.cell 2
  have y3 : wf.cell? ⟨B, 3, none⟩ = some (.string (st U.qu)) := c.cell 3
  have y4 : wf.cell? ⟨B, 4, none⟩ = some (.string (st U.fr)) := c.cell 4
  have y5 : wf.cell? ⟨B, 5, none⟩ = some (.bool U.hs) := c.cell 5
  have y6 : wf.cell? ⟨B, 6, none⟩ = some (.bool U.ha) := c.cell 6
  have y7 : wf.cell? ⟨B, 7, none⟩ = some (.bool U.hq) := c.cell 7
  have y8 : wf.cell? ⟨B, 8, none⟩ = some (.bool U.hf) := c.cell 8
  have hq := eql_self U
  have hg := guard_self U
  have hst : ∀ l, (st l).toList = l := fun l => Lib.toList_data _
  go_wp2_with fail
  refine (HIs.out _).mono ?_
  rintro e wg ⟨rfl, hbg⟩
  replace l := l.trans (hbg.mono l.size)
  clear hbg
  go_wp2_with fail
  go_ret
  exact ⟨ret_bool (by simp), l⟩
set_option maxHeartbeats 2000000 in
set_option maxRecDepth 100000 in
theorem tells_CN (s base : ByteArray) (u : Mg.U) (w : World) (hl : u.sch.length + u.au.length + u.pa.length + u.qu.length + u.fr.length ≤ 1048576) (hs : s.size ≤ 3000) (hb : base.size ≤ 3000) (h0 : Mg.schOf base.data.toList = 0) (hj : Mg.joinOk u = false) :
    Calls Try.prog 3 #[.string s, .string base, uVal u] w fun e w' => e = .returned (.bool true) ∧ Below w.heap.size w w' := by
  have HJ := Lib.hid (fun W => url_Join_no u W hl hj)
  have HRJ := Lib.hid (fun W => ref_JoinOf_is u _ hj hl W)
  obtain ⟨j, hjj⟩ : ∃ j, Mg.join u = j := ⟨_, rfl⟩
  rw [hjj] at HRJ
  clear hjj
  have HSp := Lib.hid (fun W => url_Split_ok s W hs)
  have HD := Lib.hid (fun W => url_Dots_ok s W hs)
  have HSf := Lib.hid (fun W => url_Safe_ok s W hs)
  have HTs := Lib.hid (tooLong_no s hs)
  have HRS := Lib.hid (fun W => ref_SplitOf s W (by omega))
  have HRD := Lib.hid (fun W => ref_DotsOf s W (by omega))
  have HIs := Lib.hid (fun W => ref_IsSafe s W (by omega))
  have HTb := Lib.hid (tooLong_no base hb)
  have HRB := Lib.hid (fun W => ref_SplitOf base W (by omega))
  have HR := Lib.hid (fun W => url_Resolve_bare base s W hb hs h0)
  obtain ⟨V, hV⟩ : ∃ V, Mg.split base.data.toList = V := ⟨_, rfl⟩
  have hvs : V.hs = false := by rw [← hV, hs_def]; simpa using h0
  rw [hV] at HRB
  clear hV
  obtain ⟨U, hU⟩ : ∃ U, Mg.split s.data.toList = U := ⟨_, rfl⟩
  rw [hU] at HSp HRS
  obtain ⟨d, hd⟩ : ∃ d, Mg.dots s.data.toList = d := ⟨_, rfl⟩
  rw [hd] at HD HRD
  obtain ⟨f, hf⟩ : ∃ f, Mg.isSafe s.data.toList = f := ⟨_, rfl⟩
  rw [hf] at HSf HIs
  clear hU hd hf
  have HVS := Lib.hid hvs
  clear hvs
  clear hj h0
  unfold uVal
  have k := Blk.new w 23 (uCells u)
  have l := (Below.refl _ w).alloc (Nat.le_refl _) (.cells (uCells u) 23)
  go_enter Try.func3, Try.ntmps3
  go_wp2_with fail
  change Calls _ _ _ (w.alloc (.cells (uCells u) 23)) _
  generalize w.alloc (.cells (uCells u) 23) = w1 at k l ⊢
  refine (HSp.out _).mono ?_
  rintro e w2 ⟨rfl, hb2⟩
  replace k := k.below hb2 k.lt
  replace l := l.trans (hb2.mono l.size)
  have kl := k.lt
  unfold uVal
  clear hb2 HSp
  have e0 : w2.cell? ⟨w.heap.size, 0, none⟩ = some (.string (st u.sch)) := k.cell 0
  have e1 : w2.cell? ⟨w.heap.size, 1, none⟩ = some (.string (st u.au)) := k.cell 1
  have e2 : w2.cell? ⟨w.heap.size, 2, none⟩ = some (.string (st u.pa)) := k.cell 2
  have e3 : w2.cell? ⟨w.heap.size, 3, none⟩ = some (.string (st u.qu)) := k.cell 3
  have e4 : w2.cell? ⟨w.heap.size, 4, none⟩ = some (.string (st u.fr)) := k.cell 4
  have e5 : w2.cell? ⟨w.heap.size, 5, none⟩ = some (.bool u.hs) := k.cell 5
  have e6 : w2.cell? ⟨w.heap.size, 6, none⟩ = some (.bool u.ha) := k.cell 6
  have e7 : w2.cell? ⟨w.heap.size, 7, none⟩ = some (.bool u.hq) := k.cell 7
  have e8 : w2.cell? ⟨w.heap.size, 8, none⟩ = some (.bool u.hf) := k.cell 8
  go_wp2_with fail
  clear e0 e1 e2 e3 e4 e5 e6 e7 e8
  change Calls _ _ _ (w2.alloc (.cells (uCells U) 23)) _
  have a := Blk.new w2 23 (uCells U)
  replace k := k.alloc (.cells (uCells U) 23)
  have hA := l.size
  replace l := l.alloc l.size (.cells (uCells U) 23)
  generalize w2.alloc (.cells (uCells U) 23) = w3 at k a l ⊢
  generalize w2.heap.size = A at a hA kl ⊢
  refine (HJ.out _).mono ?_
  rintro e w4 ⟨rfl, hb4⟩
  replace k := k.below hb4 k.lt
  replace a := a.below hb4 a.lt
  replace l := l.trans (hb4.mono l.size)
  clear hb4 HJ
  go_wp2_with fail
  refine (HD.out _).mono ?_
  rintro e w5 ⟨rfl, hb5⟩
  replace k := k.below hb5 k.lt
  replace a := a.below hb5 a.lt
  replace l := l.trans (hb5.mono l.size)
  clear hb5 HD
  go_wp2_with fail
  refine (HR.out _).mono ?_
  rintro e w6 ⟨rfl, hb6⟩
  replace k := k.below hb6 k.lt
  replace a := a.below hb6 a.lt
  replace l := l.trans (hb6.mono l.size)
  clear hb6 HR
  go_wp2_with fail
  refine (HSf.out _).mono ?_
  rintro e w7 ⟨rfl, hb7⟩
  replace k := k.below hb7 k.lt
  replace a := a.below hb7 a.lt
  replace l := l.trans (hb7.mono l.size)
  clear hb7 HSf
  go_wp2_with fail
  refine (HTs.out _).mono ?_
  rintro e w0 ⟨rfl, rfl⟩
  go_wp2_with fail
  refine (HTb.out _).mono ?_
  rintro e w0 ⟨rfl, rfl⟩
  clear HTs HTb
  have e0 : w7.cell? ⟨w.heap.size, 0, none⟩ = some (.string (st u.sch)) := k.cell 0
  have e1 : w7.cell? ⟨w.heap.size, 1, none⟩ = some (.string (st u.au)) := k.cell 1
  have e2 : w7.cell? ⟨w.heap.size, 2, none⟩ = some (.string (st u.pa)) := k.cell 2
  have e3 : w7.cell? ⟨w.heap.size, 3, none⟩ = some (.string (st u.qu)) := k.cell 3
  have e4 : w7.cell? ⟨w.heap.size, 4, none⟩ = some (.string (st u.fr)) := k.cell 4
  have e5 : w7.cell? ⟨w.heap.size, 5, none⟩ = some (.bool u.hs) := k.cell 5
  have e6 : w7.cell? ⟨w.heap.size, 6, none⟩ = some (.bool u.ha) := k.cell 6
  have e7 : w7.cell? ⟨w.heap.size, 7, none⟩ = some (.bool u.hq) := k.cell 7
  have e8 : w7.cell? ⟨w.heap.size, 8, none⟩ = some (.bool u.hf) := k.cell 8
  go_wp2_with fail
  clear e0 e1 e2 e3 e4 e5 e6 e7 e8
  refine (HRJ.out _).mono ?_
  rintro e w8 ⟨rfl, hb8⟩
  replace a := a.below hb8 a.lt
  replace l := l.trans (hb8.mono l.size)
  clear hb8 HRJ k
  have al := a.lt
  go_wp2_with fail
  change Calls _ _ _ (w8.alloc (.cells zCells 23)) _
  have c := Blk.new w8 23 zCells
  replace a := a.alloc (.cells zCells 23)
  have hB := l.size
  replace l := l.alloc l.size (.cells zCells 23)
  generalize w8.alloc (.cells zCells 23) = w9 at a c l ⊢
  generalize w8.heap.size = B at c hB al ⊢
  refine (HRS.out _).mono ?_
  rintro e wa ⟨rfl, hba⟩
  replace a := a.below hba a.lt
  replace c := c.below hba c.lt
  replace l := l.trans (hba.mono l.size)
  unfold uVal
  clear hba HRS
  go_wp2_with fail
  refine (HRD.out _).mono ?_
  rintro e wb ⟨rfl, n, rfl⟩
  replace a := a.drewN n
  replace c := c.drewN n
  replace l := below_drewN l n
  generalize wa.drewN n = wb at a c l ⊢
  clear HRD
  have z0 : wb.cell? ⟨B, 0, none⟩ = some (.string (st [])) := c.cell 0
  have z1 : wb.cell? ⟨B, 1, none⟩ = some (.string (st [])) := c.cell 1
  have z2 : wb.cell? ⟨B, 2, none⟩ = some (.string (st [])) := c.cell 2
  have z3 : wb.cell? ⟨B, 3, none⟩ = some (.string (st [])) := c.cell 3
  have z4 : wb.cell? ⟨B, 4, none⟩ = some (.string (st [])) := c.cell 4
  have z5 : wb.cell? ⟨B, 5, none⟩ = some (.bool false) := c.cell 5
  have z6 : wb.cell? ⟨B, 6, none⟩ = some (.bool false) := c.cell 6
  have z7 : wb.cell? ⟨B, 7, none⟩ = some (.bool false) := c.cell 7
  have z8 : wb.cell? ⟨B, 8, none⟩ = some (.bool false) := c.cell 8
  have y : ∀ i, wb.frozen? ⟨B, i, none⟩ = false := c.frozen
  go_wp2_with fail
  clear z0 z1 z2 z3 z4 z5 z6 z7 z8
  clear y
  change Calls _ _ _ (((((((((wb.setCell ⟨B, 0, none⟩ (.string (st U.sch))).setCell ⟨B, 1, none⟩ (.string (st U.au))).setCell ⟨B, 2, none⟩ (.string (st U.pa))).setCell ⟨B, 3, none⟩ (.string (st U.qu))).setCell ⟨B, 4, none⟩ (.string (st U.fr))).setCell ⟨B, 5, none⟩ (.bool U.hs)).setCell ⟨B, 6, none⟩ (.bool U.ha)).setCell ⟨B, 7, none⟩ (.bool U.hq)).setCell ⟨B, 8, none⟩ (.bool U.hf)) _
  replace a := blk_far9 a (Nat.ne_of_lt al) U
  replace c := blk_fill c U
  replace l := below_far9 l hB U
  generalize (((((((((wb.setCell ⟨B, 0, none⟩ (.string (st U.sch))).setCell ⟨B, 1, none⟩ (.string (st U.au))).setCell ⟨B, 2, none⟩ (.string (st U.pa))).setCell ⟨B, 3, none⟩ (.string (st U.qu))).setCell ⟨B, 4, none⟩ (.string (st U.fr))).setCell ⟨B, 5, none⟩ (.bool U.hs)).setCell ⟨B, 6, none⟩ (.bool U.ha)).setCell ⟨B, 7, none⟩ (.bool U.hq)).setCell ⟨B, 8, none⟩ (.bool U.hf)) = wc at a c l ⊢
  refine (HRB.out _).mono ?_
  rintro e wd ⟨rfl, hbd⟩
  replace a := a.below hbd a.lt
  replace c := c.below hbd c.lt
  replace l := l.trans (hbd.mono l.size)
  unfold uVal
  rw [HVS.out]
  clear hbd HRB
  have hfd := field_hs V false
  go_wp2_with fail
  refine (law_urlBegun _).mono ?_
  rintro e wf ⟨rfl, hbf⟩
  replace a := a.below hbf a.lt
  replace c := c.below hbf c.lt
  replace l := l.trans (hbf.mono l.size)
  clear hbf
  have x0 : wf.cell? ⟨A, 0, none⟩ = some (.string (st U.sch)) := a.cell 0
  have x1 : wf.cell? ⟨A, 1, none⟩ = some (.string (st U.au)) := a.cell 1
  have x2 : wf.cell? ⟨A, 2, none⟩ = some (.string (st U.pa)) := a.cell 2
  have x3 : wf.cell? ⟨A, 3, none⟩ = some (.string (st U.qu)) := a.cell 3
  have x4 : wf.cell? ⟨A, 4, none⟩ = some (.string (st U.fr)) := a.cell 4
  have x5 : wf.cell? ⟨A, 5, none⟩ = some (.bool U.hs) := a.cell 5
  have x6 : wf.cell? ⟨A, 6, none⟩ = some (.bool U.ha) := a.cell 6
  have x7 : wf.cell? ⟨A, 7, none⟩ = some (.bool U.hq) := a.cell 7
  have x8 : wf.cell? ⟨A, 8, none⟩ = some (.bool U.hf) := a.cell 8
  have y0 : wf.cell? ⟨B, 0, none⟩ = some (.string (st U.sch)) := c.cell 0
  have y1 : wf.cell? ⟨B, 1, none⟩ = some (.string (st U.au)) := c.cell 1
  have y2 : wf.cell? ⟨B, 2, none⟩ = some (.string (st U.pa)) := c.cell 2
  have y3 : wf.cell? ⟨B, 3, none⟩ = some (.string (st U.qu)) := c.cell 3
  have y4 : wf.cell? ⟨B, 4, none⟩ = some (.string (st U.fr)) := c.cell 4
  have y5 : wf.cell? ⟨B, 5, none⟩ = some (.bool U.hs) := c.cell 5
  have y6 : wf.cell? ⟨B, 6, none⟩ = some (.bool U.ha) := c.cell 6
  have y7 : wf.cell? ⟨B, 7, none⟩ = some (.bool U.hq) := c.cell 7
  have y8 : wf.cell? ⟨B, 8, none⟩ = some (.bool U.hf) := c.cell 8
  have hq := eql_self U
  have hg := guard_self U
  have hst : ∀ l, (st l).toList = l := fun l => Lib.toList_data _
  go_wp2_with fail
  refine (HIs.out _).mono ?_
  rintro e wg ⟨rfl, hbg⟩
  replace l := l.trans (hbg.mono l.size)
  clear hbg
  go_wp2_with fail
  go_ret
  exact ⟨ret_bool (by simp), l⟩
set_option maxHeartbeats 2000000 in
set_option maxRecDepth 100000 in
theorem tells_DY (s base : ByteArray) (u : Mg.U) (w : World) (hl : u.sch.length + u.au.length + u.pa.length + u.qu.length + u.fr.length ≤ 1048576) (hs : s.size ≤ 3000) (hb : base.size ≤ 3000) (h0 : Mg.schOf base.data.toList ≠ 0) (hn : Mg.joinOk (Mg.resU (Mg.split base.data.toList) (Mg.split s.data.toList)) = true) (hj : Mg.joinOk u = true) :
    Calls Try.prog 3 #[.string s, .string base, uVal u] w fun e w' => e = .returned (.bool true) ∧ Below w.heap.size w w' := by
  have HJ := Lib.hid (fun W => url_Join_yes u W hl hj)
  have HRJ := Lib.hid (fun W => ref_JoinOf_is u _ hj hl W)
  obtain ⟨j, hjj⟩ : ∃ j, Mg.join u = j := ⟨_, rfl⟩
  rw [hjj] at HJ HRJ
  clear hjj
  have HSp := Lib.hid (fun W => url_Split_ok s W hs)
  have HD := Lib.hid (fun W => url_Dots_ok s W hs)
  have HSf := Lib.hid (fun W => url_Safe_ok s W hs)
  have HTs := Lib.hid (tooLong_no s hs)
  have HRS := Lib.hid (fun W => ref_SplitOf s W (by omega))
  have HRD := Lib.hid (fun W => ref_DotsOf s W (by omega))
  have HIs := Lib.hid (fun W => ref_IsSafe s W (by omega))
  have HTb := Lib.hid (tooLong_no base hb)
  have HRB := Lib.hid (fun W => ref_SplitOf base W (by omega))
  have HR := Lib.hid (fun W => url_Resolve_ok base s W hb hs h0 hn)
  have HRR := Lib.hid (fun W => ref_ResolveOf_is base s hb hs true hn W)
  obtain ⟨V, hV⟩ : ∃ V, Mg.split base.data.toList = V := ⟨_, rfl⟩
  have hvs : V.hs = true := by rw [← hV, hs_def]; simpa using h0
  obtain ⟨r, hr⟩ : ∃ r, Mg.join (Mg.resU (Mg.split base.data.toList) (Mg.split s.data.toList)) = r := ⟨_, rfl⟩
  rw [hr] at HR HRR
  clear hr
  rw [hV] at HRB
  clear hV
  obtain ⟨U, hU⟩ : ∃ U, Mg.split s.data.toList = U := ⟨_, rfl⟩
  rw [hU] at HSp HRS
  obtain ⟨d, hd⟩ : ∃ d, Mg.dots s.data.toList = d := ⟨_, rfl⟩
  rw [hd] at HD HRD
  obtain ⟨f, hf⟩ : ∃ f, Mg.isSafe s.data.toList = f := ⟨_, rfl⟩
  rw [hf] at HSf HIs
  clear hU hd hf
  have HVS := Lib.hid hvs
  clear hvs
  clear hj h0 hn
  unfold uVal
  have k := Blk.new w 23 (uCells u)
  have l := (Below.refl _ w).alloc (Nat.le_refl _) (.cells (uCells u) 23)
  go_enter Try.func3, Try.ntmps3
  go_wp2_with fail
  change Calls _ _ _ (w.alloc (.cells (uCells u) 23)) _
  generalize w.alloc (.cells (uCells u) 23) = w1 at k l ⊢
  refine (HSp.out _).mono ?_
  rintro e w2 ⟨rfl, hb2⟩
  replace k := k.below hb2 k.lt
  replace l := l.trans (hb2.mono l.size)
  have kl := k.lt
  unfold uVal
  clear hb2 HSp
  have e0 : w2.cell? ⟨w.heap.size, 0, none⟩ = some (.string (st u.sch)) := k.cell 0
  have e1 : w2.cell? ⟨w.heap.size, 1, none⟩ = some (.string (st u.au)) := k.cell 1
  have e2 : w2.cell? ⟨w.heap.size, 2, none⟩ = some (.string (st u.pa)) := k.cell 2
  have e3 : w2.cell? ⟨w.heap.size, 3, none⟩ = some (.string (st u.qu)) := k.cell 3
  have e4 : w2.cell? ⟨w.heap.size, 4, none⟩ = some (.string (st u.fr)) := k.cell 4
  have e5 : w2.cell? ⟨w.heap.size, 5, none⟩ = some (.bool u.hs) := k.cell 5
  have e6 : w2.cell? ⟨w.heap.size, 6, none⟩ = some (.bool u.ha) := k.cell 6
  have e7 : w2.cell? ⟨w.heap.size, 7, none⟩ = some (.bool u.hq) := k.cell 7
  have e8 : w2.cell? ⟨w.heap.size, 8, none⟩ = some (.bool u.hf) := k.cell 8
  go_wp2_with fail
  clear e0 e1 e2 e3 e4 e5 e6 e7 e8
  change Calls _ _ _ (w2.alloc (.cells (uCells U) 23)) _
  have a := Blk.new w2 23 (uCells U)
  replace k := k.alloc (.cells (uCells U) 23)
  have hA := l.size
  replace l := l.alloc l.size (.cells (uCells U) 23)
  generalize w2.alloc (.cells (uCells U) 23) = w3 at k a l ⊢
  generalize w2.heap.size = A at a hA kl ⊢
  refine (HJ.out _).mono ?_
  rintro e w4 ⟨rfl, hb4⟩
  replace k := k.below hb4 k.lt
  replace a := a.below hb4 a.lt
  replace l := l.trans (hb4.mono l.size)
  clear hb4 HJ
  go_wp2_with fail
  refine (HD.out _).mono ?_
  rintro e w5 ⟨rfl, hb5⟩
  replace k := k.below hb5 k.lt
  replace a := a.below hb5 a.lt
  replace l := l.trans (hb5.mono l.size)
  clear hb5 HD
  go_wp2_with fail
  refine (HR.out _).mono ?_
  rintro e w6 ⟨rfl, hb6⟩
  replace k := k.below hb6 k.lt
  replace a := a.below hb6 a.lt
  replace l := l.trans (hb6.mono l.size)
  clear hb6 HR
  go_wp2_with fail
  refine (HSf.out _).mono ?_
  rintro e w7 ⟨rfl, hb7⟩
  replace k := k.below hb7 k.lt
  replace a := a.below hb7 a.lt
  replace l := l.trans (hb7.mono l.size)
  clear hb7 HSf
  go_wp2_with fail
  refine (HTs.out _).mono ?_
  rintro e w0 ⟨rfl, rfl⟩
  go_wp2_with fail
  refine (HTb.out _).mono ?_
  rintro e w0 ⟨rfl, rfl⟩
  clear HTs HTb
  have e0 : w7.cell? ⟨w.heap.size, 0, none⟩ = some (.string (st u.sch)) := k.cell 0
  have e1 : w7.cell? ⟨w.heap.size, 1, none⟩ = some (.string (st u.au)) := k.cell 1
  have e2 : w7.cell? ⟨w.heap.size, 2, none⟩ = some (.string (st u.pa)) := k.cell 2
  have e3 : w7.cell? ⟨w.heap.size, 3, none⟩ = some (.string (st u.qu)) := k.cell 3
  have e4 : w7.cell? ⟨w.heap.size, 4, none⟩ = some (.string (st u.fr)) := k.cell 4
  have e5 : w7.cell? ⟨w.heap.size, 5, none⟩ = some (.bool u.hs) := k.cell 5
  have e6 : w7.cell? ⟨w.heap.size, 6, none⟩ = some (.bool u.ha) := k.cell 6
  have e7 : w7.cell? ⟨w.heap.size, 7, none⟩ = some (.bool u.hq) := k.cell 7
  have e8 : w7.cell? ⟨w.heap.size, 8, none⟩ = some (.bool u.hf) := k.cell 8
  go_wp2_with fail
  clear e0 e1 e2 e3 e4 e5 e6 e7 e8
  refine (HRJ.out _).mono ?_
  rintro e w8 ⟨rfl, hb8⟩
  replace a := a.below hb8 a.lt
  replace l := l.trans (hb8.mono l.size)
  clear hb8 HRJ k
  have al := a.lt
  go_wp2_with fail
  change Calls _ _ _ (w8.alloc (.cells zCells 23)) _
  have c := Blk.new w8 23 zCells
  replace a := a.alloc (.cells zCells 23)
  have hB := l.size
  replace l := l.alloc l.size (.cells zCells 23)
  generalize w8.alloc (.cells zCells 23) = w9 at a c l ⊢
  generalize w8.heap.size = B at c hB al ⊢
  refine (HRS.out _).mono ?_
  rintro e wa ⟨rfl, hba⟩
  replace a := a.below hba a.lt
  replace c := c.below hba c.lt
  replace l := l.trans (hba.mono l.size)
  unfold uVal
  clear hba HRS
  go_wp2_with fail
  refine (HRD.out _).mono ?_
  rintro e wb ⟨rfl, n, rfl⟩
  replace a := a.drewN n
  replace c := c.drewN n
  replace l := below_drewN l n
  generalize wa.drewN n = wb at a c l ⊢
  clear HRD
  have z0 : wb.cell? ⟨B, 0, none⟩ = some (.string (st [])) := c.cell 0
  have z1 : wb.cell? ⟨B, 1, none⟩ = some (.string (st [])) := c.cell 1
  have z2 : wb.cell? ⟨B, 2, none⟩ = some (.string (st [])) := c.cell 2
  have z3 : wb.cell? ⟨B, 3, none⟩ = some (.string (st [])) := c.cell 3
  have z4 : wb.cell? ⟨B, 4, none⟩ = some (.string (st [])) := c.cell 4
  have z5 : wb.cell? ⟨B, 5, none⟩ = some (.bool false) := c.cell 5
  have z6 : wb.cell? ⟨B, 6, none⟩ = some (.bool false) := c.cell 6
  have z7 : wb.cell? ⟨B, 7, none⟩ = some (.bool false) := c.cell 7
  have z8 : wb.cell? ⟨B, 8, none⟩ = some (.bool false) := c.cell 8
  have y : ∀ i, wb.frozen? ⟨B, i, none⟩ = false := c.frozen
  go_wp2_with fail
  clear z0 z1 z2 z3 z4 z5 z6 z7 z8
  clear y
  change Calls _ _ _ (((((((((wb.setCell ⟨B, 0, none⟩ (.string (st U.sch))).setCell ⟨B, 1, none⟩ (.string (st U.au))).setCell ⟨B, 2, none⟩ (.string (st U.pa))).setCell ⟨B, 3, none⟩ (.string (st U.qu))).setCell ⟨B, 4, none⟩ (.string (st U.fr))).setCell ⟨B, 5, none⟩ (.bool U.hs)).setCell ⟨B, 6, none⟩ (.bool U.ha)).setCell ⟨B, 7, none⟩ (.bool U.hq)).setCell ⟨B, 8, none⟩ (.bool U.hf)) _
  replace a := blk_far9 a (Nat.ne_of_lt al) U
  replace c := blk_fill c U
  replace l := below_far9 l hB U
  generalize (((((((((wb.setCell ⟨B, 0, none⟩ (.string (st U.sch))).setCell ⟨B, 1, none⟩ (.string (st U.au))).setCell ⟨B, 2, none⟩ (.string (st U.pa))).setCell ⟨B, 3, none⟩ (.string (st U.qu))).setCell ⟨B, 4, none⟩ (.string (st U.fr))).setCell ⟨B, 5, none⟩ (.bool U.hs)).setCell ⟨B, 6, none⟩ (.bool U.ha)).setCell ⟨B, 7, none⟩ (.bool U.hq)).setCell ⟨B, 8, none⟩ (.bool U.hf)) = wc at a c l ⊢
  refine (HRB.out _).mono ?_
  rintro e wd ⟨rfl, hbd⟩
  replace a := a.below hbd a.lt
  replace c := c.below hbd c.lt
  replace l := l.trans (hbd.mono l.size)
  unfold uVal
  rw [HVS.out]
  clear hbd HRB
  have hfd := field_hs V true
  go_wp2_with fail
  refine (HRR.out _).mono ?_
  rintro e we ⟨rfl, hbe⟩
  replace a := a.below hbe a.lt
  replace c := c.below hbe c.lt
  replace l := l.trans (hbe.mono l.size)
  clear hbe HRR
  go_wp2_with fail
  refine (law_urlBegun _).mono ?_
  rintro e wf ⟨rfl, hbf⟩
  replace a := a.below hbf a.lt
  replace c := c.below hbf c.lt
  replace l := l.trans (hbf.mono l.size)
  clear hbf
  have x0 : wf.cell? ⟨A, 0, none⟩ = some (.string (st U.sch)) := a.cell 0
  have x1 : wf.cell? ⟨A, 1, none⟩ = some (.string (st U.au)) := a.cell 1
  have x2 : wf.cell? ⟨A, 2, none⟩ = some (.string (st U.pa)) := a.cell 2
  have x3 : wf.cell? ⟨A, 3, none⟩ = some (.string (st U.qu)) := a.cell 3
  have x4 : wf.cell? ⟨A, 4, none⟩ = some (.string (st U.fr)) := a.cell 4
  have x5 : wf.cell? ⟨A, 5, none⟩ = some (.bool U.hs) := a.cell 5
  have x6 : wf.cell? ⟨A, 6, none⟩ = some (.bool U.ha) := a.cell 6
  have x7 : wf.cell? ⟨A, 7, none⟩ = some (.bool U.hq) := a.cell 7
  have x8 : wf.cell? ⟨A, 8, none⟩ = some (.bool U.hf) := a.cell 8
  have y0 : wf.cell? ⟨B, 0, none⟩ = some (.string (st U.sch)) := c.cell 0
  have y1 : wf.cell? ⟨B, 1, none⟩ = some (.string (st U.au)) := c.cell 1
  have y2 : wf.cell? ⟨B, 2, none⟩ = some (.string (st U.pa)) := c.cell 2
  have y3 : wf.cell? ⟨B, 3, none⟩ = some (.string (st U.qu)) := c.cell 3
  have y4 : wf.cell? ⟨B, 4, none⟩ = some (.string (st U.fr)) := c.cell 4
  have y5 : wf.cell? ⟨B, 5, none⟩ = some (.bool U.hs) := c.cell 5
  have y6 : wf.cell? ⟨B, 6, none⟩ = some (.bool U.ha) := c.cell 6
  have y7 : wf.cell? ⟨B, 7, none⟩ = some (.bool U.hq) := c.cell 7
  have y8 : wf.cell? ⟨B, 8, none⟩ = some (.bool U.hf) := c.cell 8
  have hq := eql_self U
  have hg := guard_self U
  have hst : ∀ l, (st l).toList = l := fun l => Lib.toList_data _
  go_wp2_with fail
  refine (HIs.out _).mono ?_
  rintro e wg ⟨rfl, hbg⟩
  replace l := l.trans (hbg.mono l.size)
  clear hbg
  go_wp2_with fail
  go_ret
  exact ⟨ret_bool (by simp), l⟩
set_option maxHeartbeats 2000000 in
set_option maxRecDepth 100000 in
theorem tells_DN (s base : ByteArray) (u : Mg.U) (w : World) (hl : u.sch.length + u.au.length + u.pa.length + u.qu.length + u.fr.length ≤ 1048576) (hs : s.size ≤ 3000) (hb : base.size ≤ 3000) (h0 : Mg.schOf base.data.toList ≠ 0) (hn : Mg.joinOk (Mg.resU (Mg.split base.data.toList) (Mg.split s.data.toList)) = true) (hj : Mg.joinOk u = false) :
    Calls Try.prog 3 #[.string s, .string base, uVal u] w fun e w' => e = .returned (.bool true) ∧ Below w.heap.size w w' := by
  have HJ := Lib.hid (fun W => url_Join_no u W hl hj)
  have HRJ := Lib.hid (fun W => ref_JoinOf_is u _ hj hl W)
  obtain ⟨j, hjj⟩ : ∃ j, Mg.join u = j := ⟨_, rfl⟩
  rw [hjj] at HRJ
  clear hjj
  have HSp := Lib.hid (fun W => url_Split_ok s W hs)
  have HD := Lib.hid (fun W => url_Dots_ok s W hs)
  have HSf := Lib.hid (fun W => url_Safe_ok s W hs)
  have HTs := Lib.hid (tooLong_no s hs)
  have HRS := Lib.hid (fun W => ref_SplitOf s W (by omega))
  have HRD := Lib.hid (fun W => ref_DotsOf s W (by omega))
  have HIs := Lib.hid (fun W => ref_IsSafe s W (by omega))
  have HTb := Lib.hid (tooLong_no base hb)
  have HRB := Lib.hid (fun W => ref_SplitOf base W (by omega))
  have HR := Lib.hid (fun W => url_Resolve_ok base s W hb hs h0 hn)
  have HRR := Lib.hid (fun W => ref_ResolveOf_is base s hb hs true hn W)
  obtain ⟨V, hV⟩ : ∃ V, Mg.split base.data.toList = V := ⟨_, rfl⟩
  have hvs : V.hs = true := by rw [← hV, hs_def]; simpa using h0
  obtain ⟨r, hr⟩ : ∃ r, Mg.join (Mg.resU (Mg.split base.data.toList) (Mg.split s.data.toList)) = r := ⟨_, rfl⟩
  rw [hr] at HR HRR
  clear hr
  rw [hV] at HRB
  clear hV
  obtain ⟨U, hU⟩ : ∃ U, Mg.split s.data.toList = U := ⟨_, rfl⟩
  rw [hU] at HSp HRS
  obtain ⟨d, hd⟩ : ∃ d, Mg.dots s.data.toList = d := ⟨_, rfl⟩
  rw [hd] at HD HRD
  obtain ⟨f, hf⟩ : ∃ f, Mg.isSafe s.data.toList = f := ⟨_, rfl⟩
  rw [hf] at HSf HIs
  clear hU hd hf
  have HVS := Lib.hid hvs
  clear hvs
  clear hj h0 hn
  unfold uVal
  have k := Blk.new w 23 (uCells u)
  have l := (Below.refl _ w).alloc (Nat.le_refl _) (.cells (uCells u) 23)
  go_enter Try.func3, Try.ntmps3
  go_wp2_with fail
  change Calls _ _ _ (w.alloc (.cells (uCells u) 23)) _
  generalize w.alloc (.cells (uCells u) 23) = w1 at k l ⊢
  refine (HSp.out _).mono ?_
  rintro e w2 ⟨rfl, hb2⟩
  replace k := k.below hb2 k.lt
  replace l := l.trans (hb2.mono l.size)
  have kl := k.lt
  unfold uVal
  clear hb2 HSp
  have e0 : w2.cell? ⟨w.heap.size, 0, none⟩ = some (.string (st u.sch)) := k.cell 0
  have e1 : w2.cell? ⟨w.heap.size, 1, none⟩ = some (.string (st u.au)) := k.cell 1
  have e2 : w2.cell? ⟨w.heap.size, 2, none⟩ = some (.string (st u.pa)) := k.cell 2
  have e3 : w2.cell? ⟨w.heap.size, 3, none⟩ = some (.string (st u.qu)) := k.cell 3
  have e4 : w2.cell? ⟨w.heap.size, 4, none⟩ = some (.string (st u.fr)) := k.cell 4
  have e5 : w2.cell? ⟨w.heap.size, 5, none⟩ = some (.bool u.hs) := k.cell 5
  have e6 : w2.cell? ⟨w.heap.size, 6, none⟩ = some (.bool u.ha) := k.cell 6
  have e7 : w2.cell? ⟨w.heap.size, 7, none⟩ = some (.bool u.hq) := k.cell 7
  have e8 : w2.cell? ⟨w.heap.size, 8, none⟩ = some (.bool u.hf) := k.cell 8
  go_wp2_with fail
  clear e0 e1 e2 e3 e4 e5 e6 e7 e8
  change Calls _ _ _ (w2.alloc (.cells (uCells U) 23)) _
  have a := Blk.new w2 23 (uCells U)
  replace k := k.alloc (.cells (uCells U) 23)
  have hA := l.size
  replace l := l.alloc l.size (.cells (uCells U) 23)
  generalize w2.alloc (.cells (uCells U) 23) = w3 at k a l ⊢
  generalize w2.heap.size = A at a hA kl ⊢
  refine (HJ.out _).mono ?_
  rintro e w4 ⟨rfl, hb4⟩
  replace k := k.below hb4 k.lt
  replace a := a.below hb4 a.lt
  replace l := l.trans (hb4.mono l.size)
  clear hb4 HJ
  go_wp2_with fail
  refine (HD.out _).mono ?_
  rintro e w5 ⟨rfl, hb5⟩
  replace k := k.below hb5 k.lt
  replace a := a.below hb5 a.lt
  replace l := l.trans (hb5.mono l.size)
  clear hb5 HD
  go_wp2_with fail
  refine (HR.out _).mono ?_
  rintro e w6 ⟨rfl, hb6⟩
  replace k := k.below hb6 k.lt
  replace a := a.below hb6 a.lt
  replace l := l.trans (hb6.mono l.size)
  clear hb6 HR
  go_wp2_with fail
  refine (HSf.out _).mono ?_
  rintro e w7 ⟨rfl, hb7⟩
  replace k := k.below hb7 k.lt
  replace a := a.below hb7 a.lt
  replace l := l.trans (hb7.mono l.size)
  clear hb7 HSf
  go_wp2_with fail
  refine (HTs.out _).mono ?_
  rintro e w0 ⟨rfl, rfl⟩
  go_wp2_with fail
  refine (HTb.out _).mono ?_
  rintro e w0 ⟨rfl, rfl⟩
  clear HTs HTb
  have e0 : w7.cell? ⟨w.heap.size, 0, none⟩ = some (.string (st u.sch)) := k.cell 0
  have e1 : w7.cell? ⟨w.heap.size, 1, none⟩ = some (.string (st u.au)) := k.cell 1
  have e2 : w7.cell? ⟨w.heap.size, 2, none⟩ = some (.string (st u.pa)) := k.cell 2
  have e3 : w7.cell? ⟨w.heap.size, 3, none⟩ = some (.string (st u.qu)) := k.cell 3
  have e4 : w7.cell? ⟨w.heap.size, 4, none⟩ = some (.string (st u.fr)) := k.cell 4
  have e5 : w7.cell? ⟨w.heap.size, 5, none⟩ = some (.bool u.hs) := k.cell 5
  have e6 : w7.cell? ⟨w.heap.size, 6, none⟩ = some (.bool u.ha) := k.cell 6
  have e7 : w7.cell? ⟨w.heap.size, 7, none⟩ = some (.bool u.hq) := k.cell 7
  have e8 : w7.cell? ⟨w.heap.size, 8, none⟩ = some (.bool u.hf) := k.cell 8
  go_wp2_with fail
  clear e0 e1 e2 e3 e4 e5 e6 e7 e8
  refine (HRJ.out _).mono ?_
  rintro e w8 ⟨rfl, hb8⟩
  replace a := a.below hb8 a.lt
  replace l := l.trans (hb8.mono l.size)
  clear hb8 HRJ k
  have al := a.lt
  go_wp2_with fail
  change Calls _ _ _ (w8.alloc (.cells zCells 23)) _
  have c := Blk.new w8 23 zCells
  replace a := a.alloc (.cells zCells 23)
  have hB := l.size
  replace l := l.alloc l.size (.cells zCells 23)
  generalize w8.alloc (.cells zCells 23) = w9 at a c l ⊢
  generalize w8.heap.size = B at c hB al ⊢
  refine (HRS.out _).mono ?_
  rintro e wa ⟨rfl, hba⟩
  replace a := a.below hba a.lt
  replace c := c.below hba c.lt
  replace l := l.trans (hba.mono l.size)
  unfold uVal
  clear hba HRS
  go_wp2_with fail
  refine (HRD.out _).mono ?_
  rintro e wb ⟨rfl, n, rfl⟩
  replace a := a.drewN n
  replace c := c.drewN n
  replace l := below_drewN l n
  generalize wa.drewN n = wb at a c l ⊢
  clear HRD
  have z0 : wb.cell? ⟨B, 0, none⟩ = some (.string (st [])) := c.cell 0
  have z1 : wb.cell? ⟨B, 1, none⟩ = some (.string (st [])) := c.cell 1
  have z2 : wb.cell? ⟨B, 2, none⟩ = some (.string (st [])) := c.cell 2
  have z3 : wb.cell? ⟨B, 3, none⟩ = some (.string (st [])) := c.cell 3
  have z4 : wb.cell? ⟨B, 4, none⟩ = some (.string (st [])) := c.cell 4
  have z5 : wb.cell? ⟨B, 5, none⟩ = some (.bool false) := c.cell 5
  have z6 : wb.cell? ⟨B, 6, none⟩ = some (.bool false) := c.cell 6
  have z7 : wb.cell? ⟨B, 7, none⟩ = some (.bool false) := c.cell 7
  have z8 : wb.cell? ⟨B, 8, none⟩ = some (.bool false) := c.cell 8
  have y : ∀ i, wb.frozen? ⟨B, i, none⟩ = false := c.frozen
  go_wp2_with fail
  clear z0 z1 z2 z3 z4 z5 z6 z7 z8
  clear y
  change Calls _ _ _ (((((((((wb.setCell ⟨B, 0, none⟩ (.string (st U.sch))).setCell ⟨B, 1, none⟩ (.string (st U.au))).setCell ⟨B, 2, none⟩ (.string (st U.pa))).setCell ⟨B, 3, none⟩ (.string (st U.qu))).setCell ⟨B, 4, none⟩ (.string (st U.fr))).setCell ⟨B, 5, none⟩ (.bool U.hs)).setCell ⟨B, 6, none⟩ (.bool U.ha)).setCell ⟨B, 7, none⟩ (.bool U.hq)).setCell ⟨B, 8, none⟩ (.bool U.hf)) _
  replace a := blk_far9 a (Nat.ne_of_lt al) U
  replace c := blk_fill c U
  replace l := below_far9 l hB U
  generalize (((((((((wb.setCell ⟨B, 0, none⟩ (.string (st U.sch))).setCell ⟨B, 1, none⟩ (.string (st U.au))).setCell ⟨B, 2, none⟩ (.string (st U.pa))).setCell ⟨B, 3, none⟩ (.string (st U.qu))).setCell ⟨B, 4, none⟩ (.string (st U.fr))).setCell ⟨B, 5, none⟩ (.bool U.hs)).setCell ⟨B, 6, none⟩ (.bool U.ha)).setCell ⟨B, 7, none⟩ (.bool U.hq)).setCell ⟨B, 8, none⟩ (.bool U.hf)) = wc at a c l ⊢
  refine (HRB.out _).mono ?_
  rintro e wd ⟨rfl, hbd⟩
  replace a := a.below hbd a.lt
  replace c := c.below hbd c.lt
  replace l := l.trans (hbd.mono l.size)
  unfold uVal
  rw [HVS.out]
  clear hbd HRB
  have hfd := field_hs V true
  go_wp2_with fail
  refine (HRR.out _).mono ?_
  rintro e we ⟨rfl, hbe⟩
  replace a := a.below hbe a.lt
  replace c := c.below hbe c.lt
  replace l := l.trans (hbe.mono l.size)
  clear hbe HRR
  go_wp2_with fail
  refine (law_urlBegun _).mono ?_
  rintro e wf ⟨rfl, hbf⟩
  replace a := a.below hbf a.lt
  replace c := c.below hbf c.lt
  replace l := l.trans (hbf.mono l.size)
  clear hbf
  have x0 : wf.cell? ⟨A, 0, none⟩ = some (.string (st U.sch)) := a.cell 0
  have x1 : wf.cell? ⟨A, 1, none⟩ = some (.string (st U.au)) := a.cell 1
  have x2 : wf.cell? ⟨A, 2, none⟩ = some (.string (st U.pa)) := a.cell 2
  have x3 : wf.cell? ⟨A, 3, none⟩ = some (.string (st U.qu)) := a.cell 3
  have x4 : wf.cell? ⟨A, 4, none⟩ = some (.string (st U.fr)) := a.cell 4
  have x5 : wf.cell? ⟨A, 5, none⟩ = some (.bool U.hs) := a.cell 5
  have x6 : wf.cell? ⟨A, 6, none⟩ = some (.bool U.ha) := a.cell 6
  have x7 : wf.cell? ⟨A, 7, none⟩ = some (.bool U.hq) := a.cell 7
  have x8 : wf.cell? ⟨A, 8, none⟩ = some (.bool U.hf) := a.cell 8
  have y0 : wf.cell? ⟨B, 0, none⟩ = some (.string (st U.sch)) := c.cell 0
  have y1 : wf.cell? ⟨B, 1, none⟩ = some (.string (st U.au)) := c.cell 1
  have y2 : wf.cell? ⟨B, 2, none⟩ = some (.string (st U.pa)) := c.cell 2
  have y3 : wf.cell? ⟨B, 3, none⟩ = some (.string (st U.qu)) := c.cell 3
  have y4 : wf.cell? ⟨B, 4, none⟩ = some (.string (st U.fr)) := c.cell 4
  have y5 : wf.cell? ⟨B, 5, none⟩ = some (.bool U.hs) := c.cell 5
  have y6 : wf.cell? ⟨B, 6, none⟩ = some (.bool U.ha) := c.cell 6
  have y7 : wf.cell? ⟨B, 7, none⟩ = some (.bool U.hq) := c.cell 7
  have y8 : wf.cell? ⟨B, 8, none⟩ = some (.bool U.hf) := c.cell 8
  have hq := eql_self U
  have hg := guard_self U
  have hst : ∀ l, (st l).toList = l := fun l => Lib.toList_data _
  go_wp2_with fail
  refine (HIs.out _).mono ?_
  rintro e wg ⟨rfl, hbg⟩
  replace l := l.trans (hbg.mono l.size)
  clear hbg
  go_wp2_with fail
  go_ret
  exact ⟨ret_bool (by simp), l⟩
set_option maxHeartbeats 2000000 in
set_option maxRecDepth 100000 in
theorem tells_EY (s base : ByteArray) (u : Mg.U) (w : World) (hl : u.sch.length + u.au.length + u.pa.length + u.qu.length + u.fr.length ≤ 1048576) (hs : s.size ≤ 3000) (hb : base.size ≤ 3000) (h0 : Mg.schOf base.data.toList ≠ 0) (hn : Mg.joinOk (Mg.resU (Mg.split base.data.toList) (Mg.split s.data.toList)) = false) (hj : Mg.joinOk u = true) :
    Calls Try.prog 3 #[.string s, .string base, uVal u] w fun e w' => e = .returned (.bool true) ∧ Below w.heap.size w w' := by
  have HJ := Lib.hid (fun W => url_Join_yes u W hl hj)
  have HRJ := Lib.hid (fun W => ref_JoinOf_is u _ hj hl W)
  obtain ⟨j, hjj⟩ : ∃ j, Mg.join u = j := ⟨_, rfl⟩
  rw [hjj] at HJ HRJ
  clear hjj
  have HSp := Lib.hid (fun W => url_Split_ok s W hs)
  have HD := Lib.hid (fun W => url_Dots_ok s W hs)
  have HSf := Lib.hid (fun W => url_Safe_ok s W hs)
  have HTs := Lib.hid (tooLong_no s hs)
  have HRS := Lib.hid (fun W => ref_SplitOf s W (by omega))
  have HRD := Lib.hid (fun W => ref_DotsOf s W (by omega))
  have HIs := Lib.hid (fun W => ref_IsSafe s W (by omega))
  have HTb := Lib.hid (tooLong_no base hb)
  have HRB := Lib.hid (fun W => ref_SplitOf base W (by omega))
  have HR := Lib.hid (fun W => url_Resolve_no base s W hb hs h0 hn)
  have HRR := Lib.hid (fun W => ref_ResolveOf_is base s hb hs false hn W)
  obtain ⟨V, hV⟩ : ∃ V, Mg.split base.data.toList = V := ⟨_, rfl⟩
  have hvs : V.hs = true := by rw [← hV, hs_def]; simpa using h0
  obtain ⟨r, hr⟩ : ∃ r, Mg.join (Mg.resU (Mg.split base.data.toList) (Mg.split s.data.toList)) = r := ⟨_, rfl⟩
  rw [hr] at HRR
  clear hr
  rw [hV] at HRB
  clear hV
  obtain ⟨U, hU⟩ : ∃ U, Mg.split s.data.toList = U := ⟨_, rfl⟩
  rw [hU] at HSp HRS
  obtain ⟨d, hd⟩ : ∃ d, Mg.dots s.data.toList = d := ⟨_, rfl⟩
  rw [hd] at HD HRD
  obtain ⟨f, hf⟩ : ∃ f, Mg.isSafe s.data.toList = f := ⟨_, rfl⟩
  rw [hf] at HSf HIs
  clear hU hd hf
  have HVS := Lib.hid hvs
  clear hvs
  clear hj h0 hn
  unfold uVal
  have k := Blk.new w 23 (uCells u)
  have l := (Below.refl _ w).alloc (Nat.le_refl _) (.cells (uCells u) 23)
  go_enter Try.func3, Try.ntmps3
  go_wp2_with fail
  change Calls _ _ _ (w.alloc (.cells (uCells u) 23)) _
  generalize w.alloc (.cells (uCells u) 23) = w1 at k l ⊢
  refine (HSp.out _).mono ?_
  rintro e w2 ⟨rfl, hb2⟩
  replace k := k.below hb2 k.lt
  replace l := l.trans (hb2.mono l.size)
  have kl := k.lt
  unfold uVal
  clear hb2 HSp
  have e0 : w2.cell? ⟨w.heap.size, 0, none⟩ = some (.string (st u.sch)) := k.cell 0
  have e1 : w2.cell? ⟨w.heap.size, 1, none⟩ = some (.string (st u.au)) := k.cell 1
  have e2 : w2.cell? ⟨w.heap.size, 2, none⟩ = some (.string (st u.pa)) := k.cell 2
  have e3 : w2.cell? ⟨w.heap.size, 3, none⟩ = some (.string (st u.qu)) := k.cell 3
  have e4 : w2.cell? ⟨w.heap.size, 4, none⟩ = some (.string (st u.fr)) := k.cell 4
  have e5 : w2.cell? ⟨w.heap.size, 5, none⟩ = some (.bool u.hs) := k.cell 5
  have e6 : w2.cell? ⟨w.heap.size, 6, none⟩ = some (.bool u.ha) := k.cell 6
  have e7 : w2.cell? ⟨w.heap.size, 7, none⟩ = some (.bool u.hq) := k.cell 7
  have e8 : w2.cell? ⟨w.heap.size, 8, none⟩ = some (.bool u.hf) := k.cell 8
  go_wp2_with fail
  clear e0 e1 e2 e3 e4 e5 e6 e7 e8
  change Calls _ _ _ (w2.alloc (.cells (uCells U) 23)) _
  have a := Blk.new w2 23 (uCells U)
  replace k := k.alloc (.cells (uCells U) 23)
  have hA := l.size
  replace l := l.alloc l.size (.cells (uCells U) 23)
  generalize w2.alloc (.cells (uCells U) 23) = w3 at k a l ⊢
  generalize w2.heap.size = A at a hA kl ⊢
  refine (HJ.out _).mono ?_
  rintro e w4 ⟨rfl, hb4⟩
  replace k := k.below hb4 k.lt
  replace a := a.below hb4 a.lt
  replace l := l.trans (hb4.mono l.size)
  clear hb4 HJ
  go_wp2_with fail
  refine (HD.out _).mono ?_
  rintro e w5 ⟨rfl, hb5⟩
  replace k := k.below hb5 k.lt
  replace a := a.below hb5 a.lt
  replace l := l.trans (hb5.mono l.size)
  clear hb5 HD
  go_wp2_with fail
  refine (HR.out _).mono ?_
  rintro e w6 ⟨rfl, hb6⟩
  replace k := k.below hb6 k.lt
  replace a := a.below hb6 a.lt
  replace l := l.trans (hb6.mono l.size)
  clear hb6 HR
  go_wp2_with fail
  refine (HSf.out _).mono ?_
  rintro e w7 ⟨rfl, hb7⟩
  replace k := k.below hb7 k.lt
  replace a := a.below hb7 a.lt
  replace l := l.trans (hb7.mono l.size)
  clear hb7 HSf
  go_wp2_with fail
  refine (HTs.out _).mono ?_
  rintro e w0 ⟨rfl, rfl⟩
  go_wp2_with fail
  refine (HTb.out _).mono ?_
  rintro e w0 ⟨rfl, rfl⟩
  clear HTs HTb
  have e0 : w7.cell? ⟨w.heap.size, 0, none⟩ = some (.string (st u.sch)) := k.cell 0
  have e1 : w7.cell? ⟨w.heap.size, 1, none⟩ = some (.string (st u.au)) := k.cell 1
  have e2 : w7.cell? ⟨w.heap.size, 2, none⟩ = some (.string (st u.pa)) := k.cell 2
  have e3 : w7.cell? ⟨w.heap.size, 3, none⟩ = some (.string (st u.qu)) := k.cell 3
  have e4 : w7.cell? ⟨w.heap.size, 4, none⟩ = some (.string (st u.fr)) := k.cell 4
  have e5 : w7.cell? ⟨w.heap.size, 5, none⟩ = some (.bool u.hs) := k.cell 5
  have e6 : w7.cell? ⟨w.heap.size, 6, none⟩ = some (.bool u.ha) := k.cell 6
  have e7 : w7.cell? ⟨w.heap.size, 7, none⟩ = some (.bool u.hq) := k.cell 7
  have e8 : w7.cell? ⟨w.heap.size, 8, none⟩ = some (.bool u.hf) := k.cell 8
  go_wp2_with fail
  clear e0 e1 e2 e3 e4 e5 e6 e7 e8
  refine (HRJ.out _).mono ?_
  rintro e w8 ⟨rfl, hb8⟩
  replace a := a.below hb8 a.lt
  replace l := l.trans (hb8.mono l.size)
  clear hb8 HRJ k
  have al := a.lt
  go_wp2_with fail
  change Calls _ _ _ (w8.alloc (.cells zCells 23)) _
  have c := Blk.new w8 23 zCells
  replace a := a.alloc (.cells zCells 23)
  have hB := l.size
  replace l := l.alloc l.size (.cells zCells 23)
  generalize w8.alloc (.cells zCells 23) = w9 at a c l ⊢
  generalize w8.heap.size = B at c hB al ⊢
  refine (HRS.out _).mono ?_
  rintro e wa ⟨rfl, hba⟩
  replace a := a.below hba a.lt
  replace c := c.below hba c.lt
  replace l := l.trans (hba.mono l.size)
  unfold uVal
  clear hba HRS
  go_wp2_with fail
  refine (HRD.out _).mono ?_
  rintro e wb ⟨rfl, n, rfl⟩
  replace a := a.drewN n
  replace c := c.drewN n
  replace l := below_drewN l n
  generalize wa.drewN n = wb at a c l ⊢
  clear HRD
  have z0 : wb.cell? ⟨B, 0, none⟩ = some (.string (st [])) := c.cell 0
  have z1 : wb.cell? ⟨B, 1, none⟩ = some (.string (st [])) := c.cell 1
  have z2 : wb.cell? ⟨B, 2, none⟩ = some (.string (st [])) := c.cell 2
  have z3 : wb.cell? ⟨B, 3, none⟩ = some (.string (st [])) := c.cell 3
  have z4 : wb.cell? ⟨B, 4, none⟩ = some (.string (st [])) := c.cell 4
  have z5 : wb.cell? ⟨B, 5, none⟩ = some (.bool false) := c.cell 5
  have z6 : wb.cell? ⟨B, 6, none⟩ = some (.bool false) := c.cell 6
  have z7 : wb.cell? ⟨B, 7, none⟩ = some (.bool false) := c.cell 7
  have z8 : wb.cell? ⟨B, 8, none⟩ = some (.bool false) := c.cell 8
  have y : ∀ i, wb.frozen? ⟨B, i, none⟩ = false := c.frozen
  go_wp2_with fail
  clear z0 z1 z2 z3 z4 z5 z6 z7 z8
  clear y
  change Calls _ _ _ (((((((((wb.setCell ⟨B, 0, none⟩ (.string (st U.sch))).setCell ⟨B, 1, none⟩ (.string (st U.au))).setCell ⟨B, 2, none⟩ (.string (st U.pa))).setCell ⟨B, 3, none⟩ (.string (st U.qu))).setCell ⟨B, 4, none⟩ (.string (st U.fr))).setCell ⟨B, 5, none⟩ (.bool U.hs)).setCell ⟨B, 6, none⟩ (.bool U.ha)).setCell ⟨B, 7, none⟩ (.bool U.hq)).setCell ⟨B, 8, none⟩ (.bool U.hf)) _
  replace a := blk_far9 a (Nat.ne_of_lt al) U
  replace c := blk_fill c U
  replace l := below_far9 l hB U
  generalize (((((((((wb.setCell ⟨B, 0, none⟩ (.string (st U.sch))).setCell ⟨B, 1, none⟩ (.string (st U.au))).setCell ⟨B, 2, none⟩ (.string (st U.pa))).setCell ⟨B, 3, none⟩ (.string (st U.qu))).setCell ⟨B, 4, none⟩ (.string (st U.fr))).setCell ⟨B, 5, none⟩ (.bool U.hs)).setCell ⟨B, 6, none⟩ (.bool U.ha)).setCell ⟨B, 7, none⟩ (.bool U.hq)).setCell ⟨B, 8, none⟩ (.bool U.hf)) = wc at a c l ⊢
  refine (HRB.out _).mono ?_
  rintro e wd ⟨rfl, hbd⟩
  replace a := a.below hbd a.lt
  replace c := c.below hbd c.lt
  replace l := l.trans (hbd.mono l.size)
  unfold uVal
  rw [HVS.out]
  clear hbd HRB
  have hfd := field_hs V true
  go_wp2_with fail
  refine (HRR.out _).mono ?_
  rintro e we ⟨rfl, hbe⟩
  replace a := a.below hbe a.lt
  replace c := c.below hbe c.lt
  replace l := l.trans (hbe.mono l.size)
  clear hbe HRR
  go_wp2_with fail
  refine (law_urlBegun _).mono ?_
  rintro e wf ⟨rfl, hbf⟩
  replace a := a.below hbf a.lt
  replace c := c.below hbf c.lt
  replace l := l.trans (hbf.mono l.size)
  clear hbf
  have x0 : wf.cell? ⟨A, 0, none⟩ = some (.string (st U.sch)) := a.cell 0
  have x1 : wf.cell? ⟨A, 1, none⟩ = some (.string (st U.au)) := a.cell 1
  have x2 : wf.cell? ⟨A, 2, none⟩ = some (.string (st U.pa)) := a.cell 2
  have x3 : wf.cell? ⟨A, 3, none⟩ = some (.string (st U.qu)) := a.cell 3
  have x4 : wf.cell? ⟨A, 4, none⟩ = some (.string (st U.fr)) := a.cell 4
  have x5 : wf.cell? ⟨A, 5, none⟩ = some (.bool U.hs) := a.cell 5
  have x6 : wf.cell? ⟨A, 6, none⟩ = some (.bool U.ha) := a.cell 6
  have x7 : wf.cell? ⟨A, 7, none⟩ = some (.bool U.hq) := a.cell 7
  have x8 : wf.cell? ⟨A, 8, none⟩ = some (.bool U.hf) := a.cell 8
  have y0 : wf.cell? ⟨B, 0, none⟩ = some (.string (st U.sch)) := c.cell 0
  have y1 : wf.cell? ⟨B, 1, none⟩ = some (.string (st U.au)) := c.cell 1
  have y2 : wf.cell? ⟨B, 2, none⟩ = some (.string (st U.pa)) := c.cell 2
  have y3 : wf.cell? ⟨B, 3, none⟩ = some (.string (st U.qu)) := c.cell 3
  have y4 : wf.cell? ⟨B, 4, none⟩ = some (.string (st U.fr)) := c.cell 4
  have y5 : wf.cell? ⟨B, 5, none⟩ = some (.bool U.hs) := c.cell 5
  have y6 : wf.cell? ⟨B, 6, none⟩ = some (.bool U.ha) := c.cell 6
  have y7 : wf.cell? ⟨B, 7, none⟩ = some (.bool U.hq) := c.cell 7
  have y8 : wf.cell? ⟨B, 8, none⟩ = some (.bool U.hf) := c.cell 8
  have hq := eql_self U
  have hg := guard_self U
  have hst : ∀ l, (st l).toList = l := fun l => Lib.toList_data _
  go_wp2_with fail
  refine (HIs.out _).mono ?_
  rintro e wg ⟨rfl, hbg⟩
  replace l := l.trans (hbg.mono l.size)
  clear hbg
  go_wp2_with fail
  go_ret
  exact ⟨ret_bool (by simp), l⟩
set_option maxHeartbeats 2000000 in
set_option maxRecDepth 100000 in
theorem tells_EN (s base : ByteArray) (u : Mg.U) (w : World) (hl : u.sch.length + u.au.length + u.pa.length + u.qu.length + u.fr.length ≤ 1048576) (hs : s.size ≤ 3000) (hb : base.size ≤ 3000) (h0 : Mg.schOf base.data.toList ≠ 0) (hn : Mg.joinOk (Mg.resU (Mg.split base.data.toList) (Mg.split s.data.toList)) = false) (hj : Mg.joinOk u = false) :
    Calls Try.prog 3 #[.string s, .string base, uVal u] w fun e w' => e = .returned (.bool true) ∧ Below w.heap.size w w' := by
  have HJ := Lib.hid (fun W => url_Join_no u W hl hj)
  have HRJ := Lib.hid (fun W => ref_JoinOf_is u _ hj hl W)
  obtain ⟨j, hjj⟩ : ∃ j, Mg.join u = j := ⟨_, rfl⟩
  rw [hjj] at HRJ
  clear hjj
  have HSp := Lib.hid (fun W => url_Split_ok s W hs)
  have HD := Lib.hid (fun W => url_Dots_ok s W hs)
  have HSf := Lib.hid (fun W => url_Safe_ok s W hs)
  have HTs := Lib.hid (tooLong_no s hs)
  have HRS := Lib.hid (fun W => ref_SplitOf s W (by omega))
  have HRD := Lib.hid (fun W => ref_DotsOf s W (by omega))
  have HIs := Lib.hid (fun W => ref_IsSafe s W (by omega))
  have HTb := Lib.hid (tooLong_no base hb)
  have HRB := Lib.hid (fun W => ref_SplitOf base W (by omega))
  have HR := Lib.hid (fun W => url_Resolve_no base s W hb hs h0 hn)
  have HRR := Lib.hid (fun W => ref_ResolveOf_is base s hb hs false hn W)
  obtain ⟨V, hV⟩ : ∃ V, Mg.split base.data.toList = V := ⟨_, rfl⟩
  have hvs : V.hs = true := by rw [← hV, hs_def]; simpa using h0
  obtain ⟨r, hr⟩ : ∃ r, Mg.join (Mg.resU (Mg.split base.data.toList) (Mg.split s.data.toList)) = r := ⟨_, rfl⟩
  rw [hr] at HRR
  clear hr
  rw [hV] at HRB
  clear hV
  obtain ⟨U, hU⟩ : ∃ U, Mg.split s.data.toList = U := ⟨_, rfl⟩
  rw [hU] at HSp HRS
  obtain ⟨d, hd⟩ : ∃ d, Mg.dots s.data.toList = d := ⟨_, rfl⟩
  rw [hd] at HD HRD
  obtain ⟨f, hf⟩ : ∃ f, Mg.isSafe s.data.toList = f := ⟨_, rfl⟩
  rw [hf] at HSf HIs
  clear hU hd hf
  have HVS := Lib.hid hvs
  clear hvs
  clear hj h0 hn
  unfold uVal
  have k := Blk.new w 23 (uCells u)
  have l := (Below.refl _ w).alloc (Nat.le_refl _) (.cells (uCells u) 23)
  go_enter Try.func3, Try.ntmps3
  go_wp2_with fail
  change Calls _ _ _ (w.alloc (.cells (uCells u) 23)) _
  generalize w.alloc (.cells (uCells u) 23) = w1 at k l ⊢
  refine (HSp.out _).mono ?_
  rintro e w2 ⟨rfl, hb2⟩
  replace k := k.below hb2 k.lt
  replace l := l.trans (hb2.mono l.size)
  have kl := k.lt
  unfold uVal
  clear hb2 HSp
  have e0 : w2.cell? ⟨w.heap.size, 0, none⟩ = some (.string (st u.sch)) := k.cell 0
  have e1 : w2.cell? ⟨w.heap.size, 1, none⟩ = some (.string (st u.au)) := k.cell 1
  have e2 : w2.cell? ⟨w.heap.size, 2, none⟩ = some (.string (st u.pa)) := k.cell 2
  have e3 : w2.cell? ⟨w.heap.size, 3, none⟩ = some (.string (st u.qu)) := k.cell 3
  have e4 : w2.cell? ⟨w.heap.size, 4, none⟩ = some (.string (st u.fr)) := k.cell 4
  have e5 : w2.cell? ⟨w.heap.size, 5, none⟩ = some (.bool u.hs) := k.cell 5
  have e6 : w2.cell? ⟨w.heap.size, 6, none⟩ = some (.bool u.ha) := k.cell 6
  have e7 : w2.cell? ⟨w.heap.size, 7, none⟩ = some (.bool u.hq) := k.cell 7
  have e8 : w2.cell? ⟨w.heap.size, 8, none⟩ = some (.bool u.hf) := k.cell 8
  go_wp2_with fail
  clear e0 e1 e2 e3 e4 e5 e6 e7 e8
  change Calls _ _ _ (w2.alloc (.cells (uCells U) 23)) _
  have a := Blk.new w2 23 (uCells U)
  replace k := k.alloc (.cells (uCells U) 23)
  have hA := l.size
  replace l := l.alloc l.size (.cells (uCells U) 23)
  generalize w2.alloc (.cells (uCells U) 23) = w3 at k a l ⊢
  generalize w2.heap.size = A at a hA kl ⊢
  refine (HJ.out _).mono ?_
  rintro e w4 ⟨rfl, hb4⟩
  replace k := k.below hb4 k.lt
  replace a := a.below hb4 a.lt
  replace l := l.trans (hb4.mono l.size)
  clear hb4 HJ
  go_wp2_with fail
  refine (HD.out _).mono ?_
  rintro e w5 ⟨rfl, hb5⟩
  replace k := k.below hb5 k.lt
  replace a := a.below hb5 a.lt
  replace l := l.trans (hb5.mono l.size)
  clear hb5 HD
  go_wp2_with fail
  refine (HR.out _).mono ?_
  rintro e w6 ⟨rfl, hb6⟩
  replace k := k.below hb6 k.lt
  replace a := a.below hb6 a.lt
  replace l := l.trans (hb6.mono l.size)
  clear hb6 HR
  go_wp2_with fail
  refine (HSf.out _).mono ?_
  rintro e w7 ⟨rfl, hb7⟩
  replace k := k.below hb7 k.lt
  replace a := a.below hb7 a.lt
  replace l := l.trans (hb7.mono l.size)
  clear hb7 HSf
  go_wp2_with fail
  refine (HTs.out _).mono ?_
  rintro e w0 ⟨rfl, rfl⟩
  go_wp2_with fail
  refine (HTb.out _).mono ?_
  rintro e w0 ⟨rfl, rfl⟩
  clear HTs HTb
  have e0 : w7.cell? ⟨w.heap.size, 0, none⟩ = some (.string (st u.sch)) := k.cell 0
  have e1 : w7.cell? ⟨w.heap.size, 1, none⟩ = some (.string (st u.au)) := k.cell 1
  have e2 : w7.cell? ⟨w.heap.size, 2, none⟩ = some (.string (st u.pa)) := k.cell 2
  have e3 : w7.cell? ⟨w.heap.size, 3, none⟩ = some (.string (st u.qu)) := k.cell 3
  have e4 : w7.cell? ⟨w.heap.size, 4, none⟩ = some (.string (st u.fr)) := k.cell 4
  have e5 : w7.cell? ⟨w.heap.size, 5, none⟩ = some (.bool u.hs) := k.cell 5
  have e6 : w7.cell? ⟨w.heap.size, 6, none⟩ = some (.bool u.ha) := k.cell 6
  have e7 : w7.cell? ⟨w.heap.size, 7, none⟩ = some (.bool u.hq) := k.cell 7
  have e8 : w7.cell? ⟨w.heap.size, 8, none⟩ = some (.bool u.hf) := k.cell 8
  go_wp2_with fail
  clear e0 e1 e2 e3 e4 e5 e6 e7 e8
  refine (HRJ.out _).mono ?_
  rintro e w8 ⟨rfl, hb8⟩
  replace a := a.below hb8 a.lt
  replace l := l.trans (hb8.mono l.size)
  clear hb8 HRJ k
  have al := a.lt
  go_wp2_with fail
  change Calls _ _ _ (w8.alloc (.cells zCells 23)) _
  have c := Blk.new w8 23 zCells
  replace a := a.alloc (.cells zCells 23)
  have hB := l.size
  replace l := l.alloc l.size (.cells zCells 23)
  generalize w8.alloc (.cells zCells 23) = w9 at a c l ⊢
  generalize w8.heap.size = B at c hB al ⊢
  refine (HRS.out _).mono ?_
  rintro e wa ⟨rfl, hba⟩
  replace a := a.below hba a.lt
  replace c := c.below hba c.lt
  replace l := l.trans (hba.mono l.size)
  unfold uVal
  clear hba HRS
  go_wp2_with fail
  refine (HRD.out _).mono ?_
  rintro e wb ⟨rfl, n, rfl⟩
  replace a := a.drewN n
  replace c := c.drewN n
  replace l := below_drewN l n
  generalize wa.drewN n = wb at a c l ⊢
  clear HRD
  have z0 : wb.cell? ⟨B, 0, none⟩ = some (.string (st [])) := c.cell 0
  have z1 : wb.cell? ⟨B, 1, none⟩ = some (.string (st [])) := c.cell 1
  have z2 : wb.cell? ⟨B, 2, none⟩ = some (.string (st [])) := c.cell 2
  have z3 : wb.cell? ⟨B, 3, none⟩ = some (.string (st [])) := c.cell 3
  have z4 : wb.cell? ⟨B, 4, none⟩ = some (.string (st [])) := c.cell 4
  have z5 : wb.cell? ⟨B, 5, none⟩ = some (.bool false) := c.cell 5
  have z6 : wb.cell? ⟨B, 6, none⟩ = some (.bool false) := c.cell 6
  have z7 : wb.cell? ⟨B, 7, none⟩ = some (.bool false) := c.cell 7
  have z8 : wb.cell? ⟨B, 8, none⟩ = some (.bool false) := c.cell 8
  have y : ∀ i, wb.frozen? ⟨B, i, none⟩ = false := c.frozen
  go_wp2_with fail
  clear z0 z1 z2 z3 z4 z5 z6 z7 z8
  clear y
  change Calls _ _ _ (((((((((wb.setCell ⟨B, 0, none⟩ (.string (st U.sch))).setCell ⟨B, 1, none⟩ (.string (st U.au))).setCell ⟨B, 2, none⟩ (.string (st U.pa))).setCell ⟨B, 3, none⟩ (.string (st U.qu))).setCell ⟨B, 4, none⟩ (.string (st U.fr))).setCell ⟨B, 5, none⟩ (.bool U.hs)).setCell ⟨B, 6, none⟩ (.bool U.ha)).setCell ⟨B, 7, none⟩ (.bool U.hq)).setCell ⟨B, 8, none⟩ (.bool U.hf)) _
  replace a := blk_far9 a (Nat.ne_of_lt al) U
  replace c := blk_fill c U
  replace l := below_far9 l hB U
  generalize (((((((((wb.setCell ⟨B, 0, none⟩ (.string (st U.sch))).setCell ⟨B, 1, none⟩ (.string (st U.au))).setCell ⟨B, 2, none⟩ (.string (st U.pa))).setCell ⟨B, 3, none⟩ (.string (st U.qu))).setCell ⟨B, 4, none⟩ (.string (st U.fr))).setCell ⟨B, 5, none⟩ (.bool U.hs)).setCell ⟨B, 6, none⟩ (.bool U.ha)).setCell ⟨B, 7, none⟩ (.bool U.hq)).setCell ⟨B, 8, none⟩ (.bool U.hf)) = wc at a c l ⊢
  refine (HRB.out _).mono ?_
  rintro e wd ⟨rfl, hbd⟩
  replace a := a.below hbd a.lt
  replace c := c.below hbd c.lt
  replace l := l.trans (hbd.mono l.size)
  unfold uVal
  rw [HVS.out]
  clear hbd HRB
  have hfd := field_hs V true
  go_wp2_with fail
  refine (HRR.out _).mono ?_
  rintro e we ⟨rfl, hbe⟩
  replace a := a.below hbe a.lt
  replace c := c.below hbe c.lt
  replace l := l.trans (hbe.mono l.size)
  clear hbe HRR
  go_wp2_with fail
  refine (law_urlBegun _).mono ?_
  rintro e wf ⟨rfl, hbf⟩
  replace a := a.below hbf a.lt
  replace c := c.below hbf c.lt
  replace l := l.trans (hbf.mono l.size)
  clear hbf
  have x0 : wf.cell? ⟨A, 0, none⟩ = some (.string (st U.sch)) := a.cell 0
  have x1 : wf.cell? ⟨A, 1, none⟩ = some (.string (st U.au)) := a.cell 1
  have x2 : wf.cell? ⟨A, 2, none⟩ = some (.string (st U.pa)) := a.cell 2
  have x3 : wf.cell? ⟨A, 3, none⟩ = some (.string (st U.qu)) := a.cell 3
  have x4 : wf.cell? ⟨A, 4, none⟩ = some (.string (st U.fr)) := a.cell 4
  have x5 : wf.cell? ⟨A, 5, none⟩ = some (.bool U.hs) := a.cell 5
  have x6 : wf.cell? ⟨A, 6, none⟩ = some (.bool U.ha) := a.cell 6
  have x7 : wf.cell? ⟨A, 7, none⟩ = some (.bool U.hq) := a.cell 7
  have x8 : wf.cell? ⟨A, 8, none⟩ = some (.bool U.hf) := a.cell 8
  have y0 : wf.cell? ⟨B, 0, none⟩ = some (.string (st U.sch)) := c.cell 0
  have y1 : wf.cell? ⟨B, 1, none⟩ = some (.string (st U.au)) := c.cell 1
  have y2 : wf.cell? ⟨B, 2, none⟩ = some (.string (st U.pa)) := c.cell 2
  have y3 : wf.cell? ⟨B, 3, none⟩ = some (.string (st U.qu)) := c.cell 3
  have y4 : wf.cell? ⟨B, 4, none⟩ = some (.string (st U.fr)) := c.cell 4
  have y5 : wf.cell? ⟨B, 5, none⟩ = some (.bool U.hs) := c.cell 5
  have y6 : wf.cell? ⟨B, 6, none⟩ = some (.bool U.ha) := c.cell 6
  have y7 : wf.cell? ⟨B, 7, none⟩ = some (.bool U.hq) := c.cell 7
  have y8 : wf.cell? ⟨B, 8, none⟩ = some (.bool U.hf) := c.cell 8
  have hq := eql_self U
  have hg := guard_self U
  have hst : ∀ l, (st l).toList = l := fun l => Lib.toList_data _
  go_wp2_with fail
  refine (HIs.out _).mono ?_
  rintro e wg ⟨rfl, hbg⟩
  replace l := l.trans (hbg.mono l.size)
  clear hbg
  go_wp2_with fail
  go_ret
  exact ⟨ret_bool (by simp), l⟩
theorem law_UrlTells (s base : ByteArray) (u : Mg.U) (w : World) (hl : u.sch.length + u.au.length + u.pa.length + u.qu.length + u.fr.length ≤ 1048576) :
    Calls Try.prog 3 #[.string s, .string base, uVal u] w fun e w' => e = .returned (.bool true) ∧ Below w.heap.size w w' := by
  by_cases hs : 3000 < s.size
  · have hcb : ∃ cb : Int, (3000 < base.size ∧ cb = 2) ∨ (base.size ≤ 3000 ∧ cb = 0) := by
      by_cases hb : 3000 < base.size
      · exact ⟨2, .inl ⟨hb, rfl⟩⟩
      · exact ⟨0, .inr ⟨by omega, rfl⟩⟩
    obtain ⟨cb, hcb⟩ := hcb
    cases hj : Mg.joinOk u with
    | true => exact tells_AY s base u w hl hs cb hcb hj
    | false => exact tells_AN s base u w hl hs cb hcb hj
  replace hs : s.size ≤ 3000 := by omega
  by_cases hb : 3000 < base.size
  · cases hj : Mg.joinOk u with
    | true => exact tells_BY s base u w hl hs hb hj
    | false => exact tells_BN s base u w hl hs hb hj
  replace hb : base.size ≤ 3000 := by omega
  by_cases h0 : Mg.schOf base.data.toList = 0
  · cases hj : Mg.joinOk u with
    | true => exact tells_CY s base u w hl hs hb h0 hj
    | false => exact tells_CN s base u w hl hs hb h0 hj
  cases hn : Mg.joinOk (Mg.resU (Mg.split base.data.toList) (Mg.split s.data.toList)) with
  | true =>
    cases hj : Mg.joinOk u with
    | true => exact tells_DY s base u w hl hs hb h0 hn hj
    | false => exact tells_DN s base u w hl hs hb h0 hn hj
  | false =>
    cases hj : Mg.joinOk u with
    | true => exact tells_EY s base u w hl hs hb h0 hn hj
    | false => exact tells_EN s base u w hl hs hb h0 hn hj
end Go.Proofs.Ytpagegjhihijcaa
