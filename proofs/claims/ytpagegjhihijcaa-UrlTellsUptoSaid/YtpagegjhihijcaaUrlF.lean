/- Contracts of the path without dots: the program's dotless, and Without. Condition: a path of at most 2097152 bytes. -/
import Derived.Test.YtpagegjhihijcaaUrlE
import Derived.Deep.RegionLaw
import Derived.Deep.RegionHeld3
namespace Go.Proofs.Ytpagegjhihijcaa
open Go.RowKit

set_option maxHeartbeats 400000 in
theorem dotless_is_pre (b : Nat) (i : List UInt8) (p : ByteArray) (pl : List UInt8) (hp : p.data.toList = pl) (w : World) (hc : w.cell? ⟨b, 0, none⟩ = some (.string (st i))) :
    Calls Try.prog 41 #[.pointer (some ⟨b, 0, none⟩), .string p, .bool false] w fun e w' => e = .returned (.bool (Mg.pre pl i)) ∧ w = w' := by
  subst hp
  go_enter Try.func41, Try.ntmps41
  go_wp2_with (go_at_call 53; refine (Try.strings_HasPrefix _ _ _).mono ?_; rintro e w' ⟨rfl, hw⟩; rw [hw])
  go_ret
  exact ⟨ret_bool (pre_eq _ _), rfl⟩
set_option maxHeartbeats 400000 in
theorem dotless_is_all (b : Nat) (i : List UInt8) (p : ByteArray) (pl : List UInt8) (hp : p.data.toList = pl) (w : World) (hc : w.cell? ⟨b, 0, none⟩ = some (.string (st i))) :
    Calls Try.prog 41 #[.pointer (some ⟨b, 0, none⟩), .string p, .bool true] w fun e w' => e = .returned (.bool (i == pl)) ∧ w = w' := by
  subst hp
  have hst : ∀ s : ByteArray, s.toList = s.data.toList := fun s => Lib.toList_data s
  go_enter Try.func41, Try.ntmps41
  go_wp2
  go_ret
  refine ⟨ret_bool ?_, rfl⟩
  rw [Bool.eq_iff_iff, beq_iff_eq, beq_iff_eq]
  constructor
  · intro h; rw [← h]; rfl
  · intro h; rw [h]; rfl

/-- texts as values. -/
def sv (l : List (List UInt8)) : List Value := l.map fun s => Value.string (st s)
/-- the state of dotless, in block b: what is left, the parts that have come. -/
structure DSt (b : Nat) (w wk : World) (i : List UInt8) (o : List (List UInt8)) (v : Value) : Prop where
  below : Below b w wk
  blk : Blk wk b 56 #[.string (st i), v]
  own : wk.ownsRow (b + 1) 9 1 v o.length (sv o)

theorem sv_len (l : List (List UInt8)) : (sv l).length = l.length := by simp [sv]
theorem DSt.pop {b : Nat} {w wk : World} {i : List UInt8} {o : List (List UInt8)} {g cap : Nat} (h : DSt b w wk i o (.slice (some ⟨g, 0, none⟩) o.length cap)) (hpos : 0 < o.length) :
    DSt b w (wk.setCell ⟨b, 1, none⟩ (.slice (some ⟨g, 0, none⟩) (o.length - 1) cap)) i o.dropLast (.slice (some ⟨g, 0, none⟩) (o.length - 1) cap) := by
  refine ⟨h.below.setCell (Nat.le_refl _) _, h.blk.set_ 1 _, ?_⟩
  rw [List.length_dropLast]
  refine ownsRow_setCell_below ?_ (by show b < b + 1; omega) _
  obtain ⟨n, hn⟩ : ∃ n, o.length = n + 1 := ⟨o.length - 1, by omega⟩
  have hne : o ≠ [] := by rintro rfl; cases hpos
  have hs : sv o = sv o.dropLast ++ [Value.string (st (o.getLast hne))] := by
    conv => lhs; rw [← List.dropLast_concat_getLast hne]
    simp [sv]
  have ho := h.own
  rw [hs, hn] at ho
  rw [hn]
  exact ownsRow_pop (by rw [sv_len, List.length_dropLast]; omega) ho

set_option maxHeartbeats 400000 in
theorem dotless_back (b : Nat) (w wk : World) (i : List UInt8) (o : List (List UInt8)) (v : Value) (h : DSt b w wk i o v) (hl : o.length ≤ 2097152) :
    Calls Try.prog 42 #[.pointer (some ⟨b, 0, none⟩)] wk fun e w' => e = .returned (.tuple #[]) ∧ ∃ v', DSt b w w' i o.dropLast v' := by
  have c0 : wk.cell? ⟨b, 1, none⟩ = some v := h.blk.cell 1
  have f0 : wk.frozen? ⟨b, 1, none⟩ = false := h.blk.frozen 1
  rcases h.own.2 with ⟨rfl, h0⟩ | ⟨g, cap, cur, rfl, _, _, hnc, hcm, _⟩
  · have ho : o = [] := List.eq_nil_of_length_eq_zero h0
    subst ho
    go_enter Try.func42, Try.ntmps42
    go_wp2
    go_end0
    exact ⟨rfl, _, h⟩
  · by_cases hpos : 0 < o.length
    · go_enter Try.func42, Try.ntmps42
      go_wp2
      go_end0
      exact ⟨rfl, _, h.pop hpos⟩
    · have ho : o = [] := List.eq_nil_of_length_eq_zero (by omega)
      subst ho
      go_enter Try.func42, Try.ntmps42
      go_wp2
      go_end0
      exact ⟨rfl, _, h⟩

theorem wp_append_own_step {P : Program} {w : World} {ops : Array Oper} {o : Oper} {a : Act} {K : Act → World → Prop} {Q : Exit → Act → World → Prop} {E : Prop} (hgd : o.guard = none) (s x : Operand) (t : TypeId)
    (ho : o.op = .call { callee := .builtin .append, args := #[s, x], argTypes := #[t, t] })
    (base : Nat) (e : TypeId) (i : TypeInfo) (z : Value) (size bytes : Nat) (ht : P.underlying t = some (.slice e)) (hi : P.info? e = some i) (hz : i.zero = some z)
    (hsize : i.size = size) (hby : i.bytes = bytes) (hzs : z.cells.size = size) (hsz : 0 < size)
    (v : Value) (n : Nat) (xs : List Value) (hs : a.eval s = v) (hown : w.ownsRow base e size v n xs)
    (ad : Addr) (m c : Nat) (news : List Value) (hx : a.eval x = .slice (some ad) m c) (hl : news.length = m * size) (hnews : ∀ j u, news[j]? = some u → w.cell? (ad.add j) = some u) (h1 : ∀ u ∈ news, u.oneCell' = true)
    (h63 : n + m ≤ maxLen) (hbytes : (n + m) * bytes ≤ 140737488355328) (hbase : base ≤ w.heap.size)
    (h : ∀ v' w', w'.ownsRow base e size v' (n + m) (xs ++ news) → w.grownBy w' v.ownBlock → (v' = .slice none 0 0 ↔ v = .slice none 0 0 ∧ m = 0) → K (a.put o.dst v') w') :
    if Region.wanted o (yielded ops a.tmps) = true then Oper.wp P o a w K Q else E := by
  have hw : Region.wanted o (yielded ops a.tmps) = true := by simp [Region.wanted, hgd]
  rw [if_pos hw]
  exact wp_append_own w s x t ho base e i z size bytes ht hi hz hsize hby hzs hsz v n xs hs hown ad m c news hx hl hnews h1 h63 hbytes hbase h

theorem Try.infoS : (Try.prog.info? 9).map (fun i => (i.zero, i.size, i.bytes)) = some (some (.string ⟨#[]⟩), 1, 16) := by kernel_rfl
/-- what a step leaves. -/
def Stepped (b : Nat) (w : World) (i : List UInt8) (o : List (List UInt8)) (e : Ending) (w' : World) : Prop :=
  e = .returned (.tuple #[]) ∧ ∃ v', DSt b w w' (Mg.dmove i).2.1 (Mg.dpart i o) v'

theorem pre_len {p l : List UInt8} (h : Mg.pre p l = true) : (p.length : Int) ≤ (st l).size := by
  have h1 : l.take p.length = p := by simpa [Mg.pre] using h
  have := congrArg List.length h1
  rw [List.length_take] at this
  simp only [st_size]
  omega
theorem pre_yes {p l : List UInt8} {n : Nat} (hn : p.length = n) (h : Mg.pre p l = true) : l.take n = p := by subst hn; simpa [Mg.pre] using h
theorem pre_no {p l : List UInt8} {n : Nat} (hn : p.length = n) (h : Mg.pre p l = false) : ¬ l.take n = p := by subst hn; simpa [Mg.pre] using h
section
variable {i : List UInt8} (t1 : Mg.pre [46, 46, 47] i = false) (t2 : Mg.pre [46, 47] i = false) (t3 : Mg.pre [47, 46, 47] i = false) (t4 : (i == [47, 46]) = false) (t5 : Mg.pre [47, 46, 46, 47] i = false) (t6 : (i == [47, 46, 46]) = false)
theorem dm_1 (t : Mg.pre [46, 46, 47] i = true) : Mg.dmove i = (false, i.drop 3, []) := by
  unfold Mg.dmove; rw [if_pos (pre_yes (n := 3) rfl t)]
include t1 in
theorem dm_2 (t : Mg.pre [46, 47] i = true) : Mg.dmove i = (false, i.drop 2, []) := by
  unfold Mg.dmove; rw [if_neg (pre_no (n := 3) rfl t1), if_pos (pre_yes (n := 2) rfl t)]
include t1 t2 in
theorem dm_3 (t : Mg.pre [47, 46, 47] i = true) : Mg.dmove i = (false, i.drop 2, []) := by
  unfold Mg.dmove; rw [if_neg (pre_no (n := 3) rfl t1), if_neg (pre_no (n := 2) rfl t2), if_pos (pre_yes (n := 3) rfl t)]
include t1 t2 t3 in
theorem dm_4 (t : (i == [47, 46]) = true) : Mg.dmove i = (false, [47], []) := by
  unfold Mg.dmove; rw [if_neg (pre_no (n := 3) rfl t1), if_neg (pre_no (n := 2) rfl t2), if_neg (pre_no (n := 3) rfl t3), if_pos (beq_iff_eq.1 t)]
include t1 t2 t3 t4 in
theorem dm_5 (t : Mg.pre [47, 46, 46, 47] i = true) : Mg.dmove i = (true, i.drop 3, []) := by
  unfold Mg.dmove; rw [if_neg (pre_no (n := 3) rfl t1), if_neg (pre_no (n := 2) rfl t2), if_neg (pre_no (n := 3) rfl t3), if_neg (beq_eq_false_iff_ne.1 t4), if_pos (pre_yes (n := 4) rfl t)]
include t1 t2 t3 t4 t5 in
theorem dm_6 (t : (i == [47, 46, 46]) = true) : Mg.dmove i = (true, [47], []) := by
  unfold Mg.dmove; rw [if_neg (pre_no (n := 3) rfl t1), if_neg (pre_no (n := 2) rfl t2), if_neg (pre_no (n := 3) rfl t3), if_neg (beq_eq_false_iff_ne.1 t4), if_neg (pre_no (n := 4) rfl t5), if_pos (beq_iff_eq.1 t)]
include t1 t2 t3 t4 t5 t6 in
theorem dm_7 (t : (i == [46]) = true ∨ (i == [46, 46]) = true) : Mg.dmove i = (false, [], []) := by
  unfold Mg.dmove; rw [if_neg (pre_no (n := 3) rfl t1), if_neg (pre_no (n := 2) rfl t2), if_neg (pre_no (n := 3) rfl t3), if_neg (beq_eq_false_iff_ne.1 t4), if_neg (pre_no (n := 4) rfl t5), if_neg (beq_eq_false_iff_ne.1 t6), if_pos (t.imp beq_iff_eq.1 beq_iff_eq.1)]
include t1 t2 t3 t4 t5 t6 in
theorem dm_8 (t7 : (i == [46]) = false) (t8 : (i == [46, 46]) = false) : Mg.dmove i = (false, i.tail.dropWhile (· != 47), i.take 1 ++ i.tail.takeWhile (· != 47)) := by
  unfold Mg.dmove; rw [if_neg (pre_no (n := 3) rfl t1), if_neg (pre_no (n := 2) rfl t2), if_neg (pre_no (n := 3) rfl t3), if_neg (beq_eq_false_iff_ne.1 t4), if_neg (pre_no (n := 4) rfl t5), if_neg (beq_eq_false_iff_ne.1 t6), if_neg (by rintro (h | h); exact beq_eq_false_iff_ne.1 t7 h; exact beq_eq_false_iff_ne.1 t8 h)]
end
theorem dpart_no {i r : List UInt8} {o : List (List UInt8)} (h : Mg.dmove i = (false, r, [])) : Mg.dpart i o = o := by simp [Mg.dpart, h]
theorem dpart_back {i r : List UInt8} {o : List (List UInt8)} (h : Mg.dmove i = (true, r, [])) : Mg.dpart i o = o.dropLast := by simp [Mg.dpart, h]
theorem DSt.left {b : Nat} {w wk : World} {i : List UInt8} {o : List (List UInt8)} {v : Value} (h : DSt b w wk i o v) (i' : List UInt8) : DSt b w (wk.setCell ⟨b, 0, none⟩ (.string (st i'))) i' o v :=
  ⟨h.below.setCell (Nat.le_refl _) _, h.blk.set_ 0 _, ownsRow_setCell_below h.own (by show b < b + 1; omega) _⟩

theorem DSt.grow {b : Nat} {w wk w' : World} {i : List UInt8} {o : List (List UInt8)} {v : Value} {O : Obj} (h : DSt b w wk i o v) (hg : (wk.alloc O).drew.grownBy w' v.ownBlock) : Blk w' b 56 #[.string (st i), v] ∧ Below b w w' := by
  have hlt := h.own.lt
  have e1 : (wk.alloc O).drew.heap.size = wk.heap.size + 1 := by simp
  have hl := h.blk.lt
  refine ⟨?_, ?_⟩
  · refine ((h.blk.alloc O).drew).grown hg ?_
    intro e
    have := (hlt b e.symm).1
    omega
  · have h1 : Below b w (wk.alloc O).drew := (h.below.alloc (by omega) O).drew
    exact h1.grown hg (by omega) (fun k hk => by have := (hlt k hk).1; omega)
theorem own_form {w : World} {base size n : Nat} {e : TypeId} {v : Value} {xs : List Value} (h : w.ownsRow base e size v n xs) (hn : 0 < n) : ∃ g cap, v = .slice (some ⟨g, 0, none⟩) n cap := by
  rcases h.2 with ⟨_, h0⟩ | ⟨g, cap, cur, rfl, _⟩
  · omega
  · exact ⟨g, cap, rfl⟩
theorem DSt.grown {b n : Nat} {w w' : World} {i : List UInt8} {o : List (List UInt8)} {v v' : Value} (hb : Blk w' b 56 #[.string (st i), v]) (hl : Below b w w') (ho : w'.ownsRow (b + 1) 9 1 v' (o.length + 1) (sv o ++ [Value.string ((st i).extract 0 n)])) :
    DSt b w (w'.setCell ⟨b, 1, none⟩ v') i (o ++ [i.take n]) v' := by
  refine ⟨hl.setCell (Nat.le_refl _) _, hb.set_ 1 _, ownsRow_setCell_below ?_ (by show b < b + 1; omega) _⟩
  rw [extract_pre] at ho
  have e : sv (o ++ [i.take n]) = sv o ++ [Value.string (st (i.take n))] := by simp [sv]
  rw [e, List.length_append]
  exact ho
theorem idxb_cases (l : List UInt8) :
    (Lib.indexByte l 47 = -1 ∧ l.takeWhile (· != 47) = l ∧ l.dropWhile (· != 47) = []) ∨
    ∃ k, k < l.length ∧ Lib.indexByte l 47 = (k : Nat) ∧ l.takeWhile (· != 47) = l.take k ∧ l.dropWhile (· != 47) = l.drop k := by
  induction l with
  | nil => exact .inl ⟨rfl, rfl, rfl⟩
  | cons c t ih =>
    rw [Lib.indexByte]
    by_cases hc : c = 47
    · right
      exact ⟨0, by simp, by simp [hc], by simp [hc], by simp [hc]⟩
    · have hb : (c == 47) = false := beq_eq_false_iff_ne.2 hc
      rw [hb]
      rcases ih with ⟨h1, h2, h3⟩ | ⟨k, h1, h2, h3, h4⟩
      · left
        simp only [h1]
        refine ⟨rfl, ?_, ?_⟩
        · rw [List.takeWhile_cons, if_pos (by simpa using hc), h2]
        · rw [List.dropWhile_cons, if_pos (by simpa using hc), h3]
      · right
        refine ⟨k + 1, by simp; omega, ?_, ?_, ?_⟩
        · rw [h2]
          have : ¬ (((k : Nat) : Int) == -1) = true := by rw [beq_iff_eq]; omega
          simp [this]
        · rw [List.takeWhile_cons, if_pos (by simpa using hc), h3]; rfl
        · rw [List.dropWhile_cons, if_pos (by simpa using hc), h4]; rfl
/-- the next part: so many bytes. -/
theorem dflt_cases (i : List UInt8) (hi : i ≠ []) : ∃ n, 1 ≤ n ∧ n ≤ i.length ∧ i.take 1 ++ i.tail.takeWhile (· != 47) = i.take n ∧ i.tail.dropWhile (· != 47) = i.drop n ∧ ((Lib.indexByte i.tail 47 = -1 ∧ n = i.length) ∨ Lib.indexByte i.tail 47 = (n : Int) - 1) := by
  obtain ⟨c, t, rfl⟩ := List.exists_cons_of_ne_nil hi
  rcases idxb_cases t with ⟨h1, h2, h3⟩ | ⟨k, h1, h2, h3, h4⟩
  · exact ⟨t.length + 1, by omega, by simp, by simp [h2], by simp [h3], .inl ⟨h1, by simp⟩⟩
  · refine ⟨k + 1, by omega, by simp; omega, by simp [h3], by simp [h4], .inr ?_⟩
    simp only [List.tail_cons]
    omega
theorem IdxByte47 (s : ByteArray) (w : World) : Calls Try.prog 43 #[.string s, .int .u8 47] w fun e w' => e = .returned (.int .i64 (Lib.indexByte s.data.toList 47)) ∧ w = w' :=
  (Try.strings_IndexByte s 47 w).mono fun e w' ⟨he, hw⟩ => ⟨he, hw.symm⟩

set_option maxHeartbeats 2000000 in
set_option maxRecDepth 100000 in
theorem dotless_step (b : Nat) (w wk : World) (i : List UInt8) (o : List (List UInt8)) (v : Value) (h : DSt b w wk i o v) (hi : i ≠ []) (hl : o.length + i.length ≤ 2097152) :
    Calls Try.prog 33 #[.pointer (some ⟨b, 0, none⟩)] wk (Stepped b w i o) := by
  obtain ⟨i0, hi0, hz0, hz1, hz2⟩ := info_parts Try.infoS
  have c0 : wk.cell? ⟨b, 0, none⟩ = some (.string (st i)) := h.blk.cell 0
  have c1 : wk.cell? ⟨b, 1, none⟩ = some v := h.blk.cell 1
  have f0 : wk.frozen? ⟨b, 0, none⟩ = false := h.blk.frozen 0
  have f1 : wk.frozen? ⟨b, 1, none⟩ = false := h.blk.frozen 1
  go_enter Try.func33, Try.ntmps33
  go_wp2_with fail
  refine (dotless_is_pre b i _ [46, 46, 47] rfl _ c0).mono ?_
  rintro e w1 ⟨rfl, rfl⟩
  cases t1 : Mg.pre [46, 46, 47] i with
  | true =>
    have hz : (3 : Int) ≤ (st i).size := pre_len t1
    have T := Lib.hid (dm_1 t1)
    clear t1
    go_wp2_with fail
    go_end0
    exact ⟨rfl, _, by rw [T.out, dpart_no T.out, extract_suf]; exact h.left _⟩
  | false =>
  go_wp2_with fail
  refine (dotless_is_pre b i _ [46, 47] rfl _ c0).mono ?_
  rintro e w1 ⟨rfl, rfl⟩
  cases t2 : Mg.pre [46, 47] i with
  | true =>
    have hz : (2 : Int) ≤ (st i).size := pre_len t2
    have T := Lib.hid (dm_2 t1 t2)
    clear t1 t2
    go_wp2_with fail
    go_end0
    exact ⟨rfl, _, by rw [T.out, dpart_no T.out, extract_suf]; exact h.left _⟩
  | false =>
  go_wp2_with fail
  refine (dotless_is_pre b i _ [47, 46, 47] rfl _ c0).mono ?_
  rintro e w1 ⟨rfl, rfl⟩
  cases t3 : Mg.pre [47, 46, 47] i with
  | true =>
    have hz : (2 : Int) ≤ (st i).size := by have h3 : (3 : Int) ≤ (st i).size := pre_len t3; omega
    have T := Lib.hid (dm_3 t1 t2 t3)
    clear t1 t2 t3
    go_wp2_with fail
    go_end0
    exact ⟨rfl, _, by rw [T.out, dpart_no T.out, extract_suf]; exact h.left _⟩
  | false =>
  go_wp2_with fail
  refine (dotless_is_all b i _ [47, 46] rfl _ c0).mono ?_
  rintro e w1 ⟨rfl, rfl⟩
  cases t4 : i == [47, 46] with
  | true =>
    have T := Lib.hid (dm_4 t1 t2 t3 t4)
    clear t1 t2 t3 t4
    go_wp2_with fail
    go_end0
    exact ⟨rfl, _, by rw [T.out, dpart_no T.out]; exact h.left [47]⟩
  | false =>
  go_wp2_with fail
  refine (dotless_is_pre b i _ [47, 46, 46, 47] rfl _ c0).mono ?_
  rintro e w1 ⟨rfl, rfl⟩
  cases t5 : Mg.pre [47, 46, 46, 47] i with
  | true =>
    have hz : (3 : Int) ≤ (st i).size := by have h4 : (4 : Int) ≤ (st i).size := pre_len t5; omega
    have T := Lib.hid (dm_5 t1 t2 t3 t4 t5)
    clear t1 t2 t3 t4 t5
    have h2 := h.left (i.drop 3)
    rw [← bs_st i, ← extract_suf] at h2
    go_wp2_with fail
    refine (dotless_back b w _ _ o v h2 (by omega)).mono ?_
    rintro e w2 ⟨rfl, v2, h3⟩
    go_wp2_with fail
    go_end0
    exact ⟨rfl, _, by rw [T.out, dpart_back T.out]; exact h3⟩
  | false =>
  go_wp2_with fail
  refine (dotless_is_all b i _ [47, 46, 46] rfl _ c0).mono ?_
  rintro e w1 ⟨rfl, rfl⟩
  cases t6 : i == [47, 46, 46] with
  | true =>
    have T := Lib.hid (dm_6 t1 t2 t3 t4 t5 t6)
    clear t1 t2 t3 t4 t5 t6
    have h2 := h.left [47]
    go_wp2_with fail
    refine (dotless_back b w _ _ o v h2 (by omega)).mono ?_
    rintro e w2 ⟨rfl, v2, h3⟩
    go_wp2_with fail
    go_end0
    exact ⟨rfl, _, by rw [T.out, dpart_back T.out]; exact h3⟩
  | false =>
  go_wp2_with fail
  refine (dotless_is_all b i _ [46] rfl _ c0).mono ?_
  rintro e w1 ⟨rfl, rfl⟩
  cases t7 : i == [46] with
  | true =>
    have T := Lib.hid (dm_7 t1 t2 t3 t4 t5 t6 (.inl t7))
    clear t1 t2 t3 t4 t5 t6 t7
    go_wp2_with fail
    go_end0
    exact ⟨rfl, _, by rw [T.out, dpart_no T.out]; exact h.left []⟩
  | false =>
  go_wp2_with fail
  refine (dotless_is_all b i _ [46, 46] rfl _ c0).mono ?_
  rintro e w1 ⟨rfl, rfl⟩
  cases t8 : i == [46, 46] with
  | true =>
    have T := Lib.hid (dm_7 t1 t2 t3 t4 t5 t6 (.inr t8))
    clear t1 t2 t3 t4 t5 t6 t7 t8
    go_wp2_with fail
    go_end0
    exact ⟨rfl, _, by rw [T.out, dpart_no T.out]; exact h.left []⟩
  | false =>
  have T8 := dm_8 t1 t2 t3 t4 t5 t6 t7 t8
  clear t1 t2 t3 t4 t5 t6 t7 t8
  have hz : (1 : Int) ≤ (st i).size := by have := List.length_pos_iff.2 hi; simp only [st_size]; omega
  obtain ⟨n, n1, n2, n3, n4, n5⟩ := dflt_cases i hi
  rw [n3, n4] at T8
  have T := Lib.hid T8
  clear T8 n3 n4
  have hx : ((st i).extract 1 (st i).size).data.toList = i.tail := by rw [extract_suf]; exact List.drop_one
  rw [← hx] at n5
  clear hx
  obtain ⟨x, hx⟩ : ∃ x, Lib.indexByte ((st i).extract 1 (st i).size).data.toList 47 = x := ⟨_, rfl⟩
  rw [hx] at n5
  have HX := Lib.hid hx
  clear hx
  go_wp2_with fail
  refine (IdxByte47 _ _).mono ?_
  rintro e w1 ⟨rfl, rfl⟩
  rw [HX.out]
  go_upto_if 11 with fail
  go_cut [2] (fun s2 wx => s2 = .int .i64 n ∧ wx = wk)
  case first =>
    by_cases hx0 : x + 1 = 0
    · have hb : ((x + 1) == 0) = true := beq_iff_eq.2 hx0
      have hn : n = (st i).size := by simp only [st_size]; omega
      go_wp2_with fail
      go_meet
      case rel => exact ⟨by rw [hn], rfl⟩
    · have hb : ((x + 1) == 0) = false := beq_eq_false_iff_ne.2 hx0
      go_wp2_with fail
      go_meet
      case rel =>
        have : x + 1 = (n : Int) := by omega
        exact ⟨by rw [this], rfl⟩
  case rest =>
    obtain ⟨rfl, rfl⟩ := hcut
    have nz : (n : Int) ≤ (st i).size := by simp only [st_size]; omega
    have hown := h.own
    have hsz : b + 1 ≤ wc.heap.size := h.blk.lt
    have ca : (wc.alloc (.cells #[.string ((st i).extract 0 n)] 9)).cell? ⟨b, 1, none⟩ = some v := (h.blk.alloc _).cell 1
    have fa : (wc.alloc (.cells #[.string ((st i).extract 0 n)] 9)).frozen? ⟨b, 1, none⟩ = false := (h.blk.alloc _).frozen 1
    go_wp2_with fail
    go_upto_region 3 with fail
    go_cut [] (fun wx => ∃ v', DSt b w wx i (o ++ [i.take n]) v')
    case first =>
      go_region_law (refine wp_append_own_step rfl (.tmp 21) (.tmp 28) 54 rfl (b + 1) 9 i0 (.string ⟨#[]⟩) 1 16 Try.underlying54 hi0 hz0 hz1 hz2 rfl (by decide) v o.length (sv o) (by simp [Act.eval, Act.put]) (hown.alloc _) ⟨wc.heap.size, 0, none⟩ 1 1 [.string ((st i).extract 0 n)] (by simp [Act.eval, Act.put]) rfl (cell_one_new _ _ _) (one_cell _ rfl) (by unfold maxLen; omega) (by omega) (by simp; omega) ?_; intro v' w' hown' hg' hnn; have hgf := h.grow hg'; have c1' : w'.cell? ⟨b, 1, none⟩ = some v := hgf.1.cell 1; have f1' : w'.frozen? ⟨b, 1, none⟩ = false := hgf.1.frozen 1; obtain ⟨g, cap, hv⟩ := own_form hown' (Nat.succ_pos _); rw [hv] at hown'; rw [hv])
      all_goals
        go_wp2_with fail
        go_meet
        case rel => exact ⟨_, DSt.grown hgf.1 hgf.2 hown'⟩
    case rest =>
      obtain ⟨v2, h2⟩ := hcut
      rename_i we
      have d0 : wc.cell? ⟨b, 0, none⟩ = some (.string (st i)) := h2.blk.cell 0
      have g0 : wc.frozen? ⟨b, 0, none⟩ = false := h2.blk.frozen 0
      go_wp2_with fail
      go_end0
      refine ⟨rfl, v2, ?_⟩
      have hne : i.take n ≠ [] := by
        intro e
        rcases List.take_eq_nil_iff.1 e with h0 | h0
        · omega
        · exact hi h0
      have e1 : Mg.dpart i o = o ++ [i.take n] := by simp [Mg.dpart, T.out, hne]
      rw [T.out, e1, extract_suf]
      exact h2.left _
end Go.Proofs.Ytpagegjhihijcaa
