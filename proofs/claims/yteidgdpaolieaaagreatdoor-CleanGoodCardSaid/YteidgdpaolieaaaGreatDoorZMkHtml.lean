/- Contracts of the program's Markup and Html. Conditions on what is built; Told answers at every text and value that stays. -/
import Derived.Test.YteidgdpaolieaaaGreatDoorZMkRep3
import Derived.Test.YteidgdpaolieaaaGreatDoorZMkFlat1
import Derived.Test.YteidgdpaolieaaaGreatDoorZMkClean2
import Derived.Test.YteidgdpaolieaaaGreatDoorZMkTok8
import Derived.Test.YteidgdpaolieaaaGreatDoorZRfK
import Derived.Test.YteidgdpaolieaaaGreatDoorZUrlPlain
import Derived.Test.YteidgdpaolieaaaGreatDoorZMkTok2
import Derived.Test.YteidgdpaolieaaaGreatDoorZMkTree8
import Derived.Deep.RegionHeld3
namespace Mk
/-- markup by its parts. -/
structure Fits (base s : Bs) : Prop where
  len : s.length ≤ 3000
  toks : Bld.tokB (toks s) ≤ 549755813000
  built : (build (Mk.toks s)).bulk ≤ 1048576
  out : (clean base (build (Mk.toks s))).bulk ≤ 549755813888
  bytes : (html base s).length ≤ 1099511627776
end Mk
namespace Go.Proofs.YteidgdpaolieaaaGreatDoor
open Go.RowKit
set_option maxHeartbeats 4000000 in
set_option maxRecDepth 100000 in
theorem cl_Markup (base s : List UInt8) (w : World) (hg : Gl w) (hf : Mk.Fits base s) (hT : ∀ t ∈ Mk.flat (Mk.clean base (Mk.build (Mk.toks s))), TokTells t) :
    Calls Tryz.prog 28 #[.string (st base), .string (st s)] w fun e w' => e = .returned (.string (st (Mk.html base s))) ∧ Below w.heap.size w w' := by
  have HA := Lib.hid (mk_All (st s) w hg (by have := hf.len; rw [st_size]; omega))
  have HF := Lib.hid hf
  have HT := Lib.hid hT
  have HE : Hid (Mk.bytes (Mk.flat (Mk.clean base (Mk.build (Mk.toks s)))) = Mk.html base s) := rfl
  clear hf hT
  go_enter Tryz.func28, Tryz.ntmps28
  go_wp2_with fail
  refine HA.out.mono ?_
  rintro e w1 ⟨v1, rfl, hv1, hb1⟩
  have B1 := Lib.hid hb1
  have HO := Lib.hid (tr_Of (Mk.toks s) v1 _ w1 hv1 (fun b q => q.2) HF.out.toks)
  clear hv1 hb1 HA
  go_wp2_with fail
  refine HO.out.mono ?_
  rintro e w2 ⟨v2, rfl, hv2, hb2⟩
  have B2 := Lib.hid (B1.out.trans (hb2.mono B1.out.size))
  have HC := Lib.hid (cl_Of base (Mk.build (Mk.toks s)) v2 _ w2 (Nat.le_trans HF.out.built (by decide)) hv2 (fun b q => q.2))
  clear hv2 HO
  go_wp2_with fail
  refine HC.out.mono ?_
  rintro e w3 ⟨v3, rfl, hv3, hb3⟩
  have B3 := Lib.hid (B2.out.trans (hb3.mono B2.out.size))
  have HK := Lib.hid (tr_Tokens ((Mk.clean base (Mk.build (Mk.toks s))).bulk + 1) (Mk.clean base (Mk.build (Mk.toks s))) (Nat.lt_succ_self _) HF.out.out v3 _ w3 hv3 (fun b q => q.elim (fun q => Nat.lt_of_lt_of_le q.2 hb3.size) (fun q => q.2)))
  clear hv3 hb3 hb2 HC
  go_wp2_with fail
  refine HK.out.mono ?_
  rintro e w4 ⟨v4, xs4, rfl, hv4, _, hb4⟩
  have B4 := Lib.hid (B3.out.trans (hb4.mono B3.out.size))
  have HB := Lib.hid (tk_Bytes (Mk.flat (Mk.clean base (Mk.build (Mk.toks s)))) v4 _ w4 hv4.toksV (fun b q => q.2) HT.out HF.out.bytes)
  clear hv4 hb4 HK
  go_wp2_with fail
  refine HB.out.mono ?_
  rintro e w5 ⟨rfl, hb5⟩
  have B5 := Lib.hid (B4.out.trans (hb5.mono B4.out.size))
  clear hb5 HB
  go_wp2_with fail
  go_ret
  exact ⟨by rw [← HE.out]; rfl, B5.out⟩
set_option maxHeartbeats 4000000 in
set_option maxRecDepth 100000 in
theorem cl_Html (base s : List UInt8) (w : World) (hg : Gl w) (hb : base.length ≤ 3000) (hf : Mk.Fits base s) (hT : ∀ t ∈ Mk.flat (Mk.clean base (Mk.build (Mk.toks s))), TokTells t) :
    Calls Tryz.prog 9 #[.string (st base), .string (st s)] w fun e w' => e = .returned (.tuple #[.string (st (Mk.html base s)), .int .i64 0]) ∧ Below w.heap.size w w' := by
  have HM := Lib.hid (cl_Markup base s w hg hf hT)
  have h1 : ¬ 3000 < (st base).size := by rw [st_size]; omega
  have h2 : ¬ 3000 < (st s).size := by have := hf.len; rw [st_size]; omega
  clear hf hT
  go_enter Tryz.func9, Tryz.ntmps9
  go_wp2_with fail
  refine HM.out.mono ?_
  rintro e w1 ⟨rfl, hb1⟩
  have B1 := Lib.hid hb1
  clear hb1 HM
  go_wp2_with fail
  go_ret2
  exact ⟨rfl, B1.out⟩
end Go.Proofs.YteidgdpaolieaaaGreatDoor

/- The plain law of tokens: what is read is right; what is printed is read as it was. No program in sight. -/
namespace Mk
open Bld
/-! What is read is right. -/
theorem attrsN_ok : ∀ (n : Nat) (r : Bs) (out l : List At) (rest : Bs), checkAts isName [] out = 0 → attrsN n r out = some (l, rest) → checkAts isName [] l = 0
  | 0, _, _, _, _, _, h => by cases h
  | n + 1, r, out, l, rest, ho, h => by
    unfold attrsN at h
    split at h
    · cases h
    · split at h
      · injection h with h
        injection h with h1 h2
        rw [← h1]
        exact ho
      · simp only at h
        split at h
        · cases h
        · rename_i c t _ _ v r4 _
          refine attrsN_ok n r4 _ l rest ?_ h
          split
          · rename_i hq
            obtain ⟨q1, q2⟩ := Bool.and_eq_true_iff.1 hq
            have key : ∀ (m seen : List At) (a : At), checkAts isName seen m = 0 → isName a.n = true → hasAt (seen ++ m) a.n = false → checkAts isName seen (m ++ [a]) = 0 := by
              intro m
              induction m with
              | nil => intro seen a _ p1 p2; exact (checkAts_cons ..).2 ⟨p1, by simpa using p2, rfl⟩
              | cons b m ih =>
                intro seen a p0 p1 p2
                obtain ⟨b1, b2, b3⟩ := (checkAts_cons ..).1 p0
                exact (checkAts_cons ..).2 ⟨b1, b2, ih (seen ++ [b]) a b3 p1 (by rw [List.append_assoc]; exact p2)⟩
            exact key out [] _ ho q1 (by simpa using q2)
          · exact ho
theorem flush_ok (text : Bs) (out : List Tok) (h : ∀ t ∈ out, TokOk t) : ∀ t ∈ flush text out, TokOk t := by
  unfold flush
  simp only
  split
  · exact h
  · rename_i hn
    intro t ht
    rcases List.mem_append.1 ht with q | q
    · exact h t q
    · rw [List.mem_singleton.1 q]
      exact .inl ⟨rfl, rfl, rfl, hn⟩
theorem hereAt_ok (r : Bs) (t : Tok) (rest : Bs) (h : hereAt r = .tag t rest) : TokOk t := by
  unfold hereAt at h
  split at h
  · unfold openAt at h
    simp only at h
    split at h
    · cases h
    · rename_i l rest' ha
      split at h
      · rename_i hn
        injection h with h1 h2
        rw [← h1]
        exact .inr (.inl ⟨rfl, hn, attrsN_ok _ _ [] l rest' rfl ha, rfl⟩)
      · cases h
  · split at h
    · unfold closeAt at h
      simp only at h
      split at h
      · cases h
      · split at h
        · rename_i hn
          injection h with h1 h2
          rw [← h1]
          exact .inr (.inr ⟨rfl, hn, rfl, rfl⟩)
        · cases h
    · split at h
      · unfold passAt at h
        split at h <;> cases h
      · split at h
        · unfold passAt at h
          split at h <;> cases h
        · cases h
theorem toksN_ok : ∀ (n : Nat) (r text : Bs) (out : List Tok), (∀ t ∈ out, TokOk t) → ∀ t ∈ toksN n r text out, TokOk t
  | 0, r, text, out, h => by
    have e : toksN 0 r text out = flush text out := by unfold toksN; rfl
    rw [e]
    exact flush_ok text out h
  | n + 1, [], text, out, h => by
    have e : toksN (n + 1) [] text out = flush text out := by unfold toksN; rfl
    rw [e]
    exact flush_ok text out h
  | n + 1, c :: t, text, out, h => by
    unfold toksN
    split
    · split
      · exact toksN_ok n _ _ out h
      · exact flush_ok _ out h
      · exact toksN_ok n _ _ out h
      · rename_i k rest hk
        refine toksN_ok n _ _ _ (fun x q => ?_)
        rcases List.mem_append.1 q with q | q
        · exact flush_ok text out h x q
        · rw [List.mem_singleton.1 q]
          exact hereAt_ok _ k rest hk
    · exact toksN_ok n _ _ out h
theorem toks_ok (s : Bs) : ∀ t ∈ toks s, TokOk t := toksN_ok _ _ _ _ (fun _ q => by cases q)
/-! What is printed is read as it was. -/
theorem takeN_put : ∀ (t : Bs) (n : Nat), (put t).length ≤ n → takeN n (put t) = (t, true)
  | [], n, _ => by cases n <;> rfl
  | c :: t, n, h => by
    have e : put (c :: t) = esc c ++ put t := rfl
    rw [e, List.length_append] at h
    rw [e]
    by_cases h1 : c = 38
    · subst h1
      have e1 : esc 38 = [38, 97, 109, 112, 59] := rfl
      rw [e1] at h ⊢
      cases n with
      | zero => simp at h
      | succ n =>
        have ih := takeN_put t n (by simp at h; omega)
        have hs : sign ([38, 97, 109, 112, 59] ++ put t) = ([38], 5, true) := by simp [sign, named, Mg.pre]
        show takeN (n + 1) (38 :: ([97, 109, 112, 59] ++ put t)) = _
        rw [takeN, if_pos rfl]
        have hs' : sign (38 :: ([97, 109, 112, 59] ++ put t)) = ([38], 5, true) := hs
        simp only [hs']
        show ([38] ++ (takeN n (put t)).1, true && (takeN n (put t)).2) = _
        rw [ih]
        rfl
    by_cases h2 : c = 60
    · subst h2
      have e1 : esc 60 = [38, 108, 116, 59] := rfl
      rw [e1] at h ⊢
      cases n with
      | zero => simp at h
      | succ n =>
        have ih := takeN_put t n (by simp at h; omega)
        have hs : sign (38 :: ([108, 116, 59] ++ put t)) = ([60], 4, true) := by simp [sign, named, Mg.pre]
        show takeN (n + 1) (38 :: ([108, 116, 59] ++ put t)) = _
        rw [takeN, if_pos rfl]
        simp only [hs]
        show ([60] ++ (takeN n (put t)).1, true && (takeN n (put t)).2) = _
        rw [ih]
        rfl
    by_cases h3 : c = 62
    · subst h3
      have e1 : esc 62 = [38, 103, 116, 59] := rfl
      rw [e1] at h ⊢
      cases n with
      | zero => simp at h
      | succ n =>
        have ih := takeN_put t n (by simp at h; omega)
        have hs : sign (38 :: ([103, 116, 59] ++ put t)) = ([62], 4, true) := by simp [sign, named, Mg.pre]
        show takeN (n + 1) (38 :: ([103, 116, 59] ++ put t)) = _
        rw [takeN, if_pos rfl]
        simp only [hs]
        show ([62] ++ (takeN n (put t)).1, true && (takeN n (put t)).2) = _
        rw [ih]
        rfl
    by_cases h4 : c = 34
    · subst h4
      have e1 : esc 34 = [38, 113, 117, 111, 116, 59] := rfl
      rw [e1] at h ⊢
      cases n with
      | zero => simp at h
      | succ n =>
        have ih := takeN_put t n (by simp at h; omega)
        have hs : sign (38 :: ([113, 117, 111, 116, 59] ++ put t)) = ([34], 6, true) := by simp [sign, named, Mg.pre]
        show takeN (n + 1) (38 :: ([113, 117, 111, 116, 59] ++ put t)) = _
        rw [takeN, if_pos rfl]
        simp only [hs]
        show ([34] ++ (takeN n (put t)).1, true && (takeN n (put t)).2) = _
        rw [ih]
        rfl
    · have e1 : esc c = [c] := by unfold esc; rw [if_neg h1, if_neg h2, if_neg h3, if_neg h4]
      rw [e1] at h ⊢
      cases n with
      | zero => simp at h
      | succ n =>
        have ih := takeN_put t n (by simp at h; omega)
        show takeN (n + 1) (c :: put t) = _
        rw [takeN, if_neg h1]
        simp only [ih]
theorem take_put (t : Bs) : take (put t) = (t, true) := takeN_put t _ (Nat.le_refl _)
theorem put_mem (t : Bs) : ∀ x ∈ put t, x ≠ 34 ∧ x ≠ 60 := by
  intro x hx
  obtain ⟨c, _, hc⟩ := List.mem_flatMap.1 hx
  clear hx
  unfold esc at hc
  split at hc
  · revert x; decide
  · split at hc
    · revert x; decide
    · split at hc
      · revert x; decide
      · split at hc
        · revert x; decide
        · rename_i h1 h2 h3 h4
          rw [List.mem_singleton.1 hc]
          exact ⟨h4, h2⟩
def nameB (x : UInt8) : Bool := small x || Mg.isDig x || x == 45
set_option maxRecDepth 100000 in
theorem name_byte : ∀ x, nameB x = true → tagStop x = true ∧ atStop x = true ∧ Mg.low x = x ∧ (white x || x == 47) = false ∧ x ≠ 62 := Mg.all256 (fun x => nameB x = true → tagStop x = true ∧ atStop x = true ∧ Mg.low x = x ∧ (white x || x == 47) = false ∧ x ≠ 62) (by decide)
set_option maxRecDepth 100000 in
theorem small_let : ∀ x, small x = true → Mg.isLet x = true ∧ nameB x = true ∧ x ≠ 47 ∧ x ≠ 33 ∧ x ≠ 63 := Mg.all256 (fun x => small x = true → Mg.isLet x = true ∧ nameB x = true ∧ x ≠ 47 ∧ x ≠ 33 ∧ x ≠ 63) (by decide)
theorem nameAll_mem : ∀ (l : Bs) (b : Bool), nameAll b l = true → ∀ x ∈ l, nameB x = true
  | [], _, _, _, h => by cases h
  | c :: t, b, h, x, hx => by
    unfold nameAll at h
    obtain ⟨h1, h2⟩ := Bool.and_eq_true_iff.1 h
    rcases List.mem_cons.1 hx with q | q
    · rw [q]
      unfold nameB
      rcases Bool.or_eq_true_iff.1 h1 with p | p
      · rw [p]; rfl
      · rw [Bool.or_assoc, (Bool.and_eq_true_iff.1 p).2, Bool.or_true]
    · exact nameAll_mem t false h2 x q
theorem name_parts {n : Bs} (h : isName n = true) : ∃ c t, n = c :: t ∧ small c = true ∧ ∀ x ∈ n, nameB x = true := by
  unfold isName at h
  obtain ⟨h1, h2⟩ := Bool.and_eq_true_iff.1 h
  cases n with
  | nil => simp at h1
  | cons c t =>
    refine ⟨c, t, rfl, ?_, nameAll_mem _ _ h2⟩
    unfold nameAll at h2
    have := (Bool.and_eq_true_iff.1 h2).1
    simpa using this
theorem name_fold {n : Bs} (h : ∀ x ∈ n, nameB x = true) : Mg.fold n = n := by
  unfold Mg.fold
  rw [List.map_congr_left (fun x q => (name_byte x (h x q)).2.2.1), List.map_id']
theorem written_cons (a : At) (l : List At) : written (a :: l) = 32 :: (a.n ++ (61 :: 34 :: (put a.v ++ (34 :: written l)))) := by
  unfold written
  rw [List.flatMap_cons]
  simp
theorem attrsN_put : ∀ (l : List At) (n : Nat) (out : List At) (R : Bs), checkAts isName out l = 0 → l.length + 1 ≤ n → attrsN n (written l ++ 62 :: R) out = some (out ++ l, R)
  | [], n, out, R, _, hn => by
    cases n with
    | zero => omega
    | succ n =>
      show attrsN (n + 1) (62 :: R) out = _
      unfold attrsN
      have e : (62 :: R).dropWhile (fun c => white c || c == 47) = 62 :: R := List.dropWhile_cons_of_neg (by decide)
      rw [e]
      simp
  | a :: l, n, out, R, h, hn => by
    obtain ⟨h1, h2, h3⟩ := (checkAts_cons ..).1 h
    obtain ⟨c, t, hc, hs, hb⟩ := name_parts h1
    cases n with
    | zero => omega
    | succ n =>
      have ih := attrsN_put l n (out ++ [a]) R h3 (by simp at hn; omega)
      rw [written_cons, hc]
      have hbc := hb c (by rw [hc]; simp)
      have hbt : ∀ x ∈ t, nameB x = true := fun x q => hb x (by rw [hc]; simp [q])
      obtain ⟨y1, y2, y3, y4, y5⟩ := name_byte c hbc
      have e1 : ((32 :: (c :: t ++ (61 :: 34 :: (put a.v ++ (34 :: written l))))) ++ 62 :: R).dropWhile (fun c => white c || c == 47) = c :: (t ++ (61 :: 34 :: (put a.v ++ (34 :: (written l ++ 62 :: R))))) := by
        simp only [List.cons_append, List.append_assoc]
        rw [List.dropWhile_cons_of_pos (by decide), List.dropWhile_cons_of_neg (by simp [y4])]
      unfold attrsN
      rw [e1]
      simp only
      rw [if_neg y5]
      have e2 : (t ++ (61 :: 34 :: (put a.v ++ (34 :: (written l ++ 62 :: R))))).takeWhile atStop = t := by
        rw [List.takeWhile_append_of_pos (fun x q => (name_byte x (hbt x q)).2.1), List.takeWhile_cons_of_neg (by decide), List.append_nil]
      have e3 : (t ++ (61 :: 34 :: (put a.v ++ (34 :: (written l ++ 62 :: R))))).dropWhile atStop = 61 :: 34 :: (put a.v ++ (34 :: (written l ++ 62 :: R))) := by
        rw [List.dropWhile_append_of_pos (fun x q => (name_byte x (hbt x q)).2.1), List.dropWhile_cons_of_neg (by decide)]
      have e4 : (61 :: 34 :: (put a.v ++ (34 :: (written l ++ 62 :: R)))).dropWhile white = 61 :: 34 :: (put a.v ++ (34 :: (written l ++ 62 :: R))) := List.dropWhile_cons_of_neg (by decide)
      rw [e2, e3, e4]
      have e5 : Mg.fold (c :: t) = a.n := by rw [← hc]; exact name_fold hb
      have e6 : valueOf (34 :: (put a.v ++ (34 :: (written l ++ 62 :: R)))) = some (put a.v, written l ++ 62 :: R) := by
        unfold valueOf
        rw [List.dropWhile_cons_of_neg (by decide)]
        simp only
        rw [if_pos (.inl trivial)]
        have q1 : ∀ x ∈ put a.v, (x != 34) = true := fun x q => by simpa using (put_mem a.v x q).1
        rw [List.dropWhile_append_of_pos q1, List.takeWhile_append_of_pos q1, List.dropWhile_cons_of_neg (by decide), List.takeWhile_cons_of_neg (by decide), List.append_nil]
      have e7 : Mg.isAt 61 (61 :: 34 :: (put a.v ++ (34 :: (written l ++ 62 :: R)))) = true := by simp [Mg.isAt]
      rw [e5, e7, if_pos rfl, List.tail_cons, e6]
      simp only [Option.map_some, take_put]
      rw [if_pos (by rw [h1, h2]; rfl)]
      rw [ih, List.append_assoc]
      rfl
theorem written_len : ∀ l : List At, l.length ≤ (written l).length
  | [] => Nat.zero_le _
  | a :: l => by
    have := written_len l
    rw [written_cons]
    simp
    omega
theorem attrsOf_put (l : List At) (R : Bs) (h : checkAts isName [] l = 0) : attrsOf (written l ++ 62 :: R) = some (l, R) := by
  unfold attrsOf
  have := written_len l
  rw [attrsN_put l _ [] R h (by simp; omega), List.nil_append]
theorem written_first (l : List At) (R : Bs) : ∃ y r, written l ++ 62 :: R = y :: r ∧ tagStop y = false := by
  cases l with
  | nil => exact ⟨62, R, rfl, by decide⟩
  | cons a l => rw [written_cons]; exact ⟨32, _, rfl, by decide⟩
theorem here_open (n : Bs) (l : List At) (R : Bs) (hn : isName n = true) (hl : checkAts isName [] l = 0) : hereAt (60 :: (n ++ (written l ++ 62 :: R))) = .tag ⟨2, n, l, []⟩ R := by
  obtain ⟨c, t, hc, hs, hb⟩ := name_parts hn
  obtain ⟨y, r, hy, hyt⟩ := written_first l R
  have e0 : letAt (60 :: (n ++ (written l ++ 62 :: R))).tail = true := by rw [hc]; exact (small_let c hs).1
  unfold hereAt
  rw [if_pos e0, List.tail_cons]
  unfold openAt
  have p1 : ∀ x ∈ n, tagStop x = true := fun x q => (name_byte x (hb x q)).1
  have e1 : (n ++ (written l ++ 62 :: R)).takeWhile tagStop = n := by
    rw [hy, List.takeWhile_append_of_pos p1, List.takeWhile_cons_of_neg (by simp [hyt]), List.append_nil]
  have e2 : (n ++ (written l ++ 62 :: R)).dropWhile tagStop = written l ++ 62 :: R := by
    rw [List.dropWhile_append_of_pos p1, hy, List.dropWhile_cons_of_neg (by simp [hyt])]
  simp only [e1, e2, attrsOf_put l R hl, name_fold hb, hn, if_true]
theorem here_close (n : Bs) (R : Bs) (hn : isName n = true) : hereAt (60 :: 47 :: (n ++ 62 :: R)) = .tag ⟨3, n, [], []⟩ R := by
  obtain ⟨c, t, hc, hs, hb⟩ := name_parts hn
  have e0 : letAt (60 :: 47 :: (n ++ 62 :: R)).tail = false := by
    show Mg.isLet 47 = false
    decide
  have e9 : (Mg.pre [60, 47] (60 :: 47 :: (n ++ 62 :: R)) && letAt ((60 :: 47 :: (n ++ 62 :: R)).drop 2)) = true := by
    have : letAt (n ++ 62 :: R) = true := by rw [hc]; exact (small_let c hs).1
    show (Mg.pre [60, 47] (60 :: 47 :: (n ++ 62 :: R)) && letAt (n ++ 62 :: R)) = true
    rw [this]
    rfl
  unfold hereAt
  rw [if_neg (by rw [e0]; decide), if_pos e9]
  unfold closeAt
  have p1 : ∀ x ∈ n, tagStop x = true := fun x q => (name_byte x (hb x q)).1
  have e1 : (n ++ 62 :: R).takeWhile tagStop = n := by
    rw [List.takeWhile_append_of_pos p1, List.takeWhile_cons_of_neg (by decide), List.append_nil]
  have e2 : (n ++ 62 :: R).dropWhile tagStop = 62 :: R := by
    rw [List.dropWhile_append_of_pos p1, List.dropWhile_cons_of_neg (by decide)]
  have e3 : behind [62] (62 :: R) = some R := by unfold behind; simp [Mg.pre]
  have e4 : (60 :: 47 :: (n ++ 62 :: R)).drop 2 = n ++ 62 :: R := rfl
  simp only [e4, e1, e2, e3, name_fold hb, hn, if_true]
theorem toksN_text : ∀ (l : Bs) (n : Nat) (text : Bs) (out : List Tok) (R : Bs), (∀ x ∈ l, x ≠ 60) → l.length ≤ n → toksN n (l ++ R) text out = toksN (n - l.length) R (text ++ l) out
  | [], n, text, out, R, _, _ => by simp
  | c :: l, n, text, out, R, h, hn => by
    cases n with
    | zero => simp at hn
    | succ n =>
      show toksN (n + 1) (c :: (l ++ R)) text out = _
      rw [toksN, if_neg (h c (by simp)), toksN_text l n (text ++ [c]) out R (fun x q => h x (by simp [q])) (by simpa using hn)]
      simp
/-- texts don't stand side by side. -/
def Adj : Bool → List Tok → Prop
  | _, [] => True
  | p, t :: r => (t.kind = 1 → p = false) ∧ Adj (decide (t.kind = 1)) r
theorem Adj.weak : ∀ {l : List Tok}, Adj true l → ∀ p, Adj p l
  | [], _, _ => trivial
  | _ :: _, h, _ => ⟨fun q => (by cases h.1 q), h.2⟩
theorem flush_put (t : Bs) (out : List Tok) (h : t ≠ []) : flush (put t) out = out ++ [⟨1, [], [], t⟩] := by
  unfold flush
  simp only [take_put]
  rw [if_neg h]
theorem flush_nil (out : List Tok) : flush [] out = out := by
  have e : (take []).1 = [] := rfl
  unfold flush
  simp [e]
theorem read_list : ∀ (L : List Tok) (p : Bool) (text : Bs) (out : List Tok) (n : Nat), (∀ t ∈ L, TokOk t) → Adj p L → (p = false → text = []) → (bytes L).length ≤ n → toksN n (bytes L) text out = flush text out ++ L
  | [], p, text, out, n, _, _, _, _ => by
    have e : toksN n [] text out = flush text out := by cases n <;> (unfold toksN; rfl)
    show toksN n [] text out = _
    rw [e, List.append_nil]
  | t :: L, p, text, out, n, hL, ha, hp, hn => by
    have hb : bytes (t :: L) = tokBytes t ++ bytes L := rfl
    have ih := fun p' text' out' n' h1 h2 h3 => read_list L p' text' out' n' (fun x q => hL x (by simp [q])) h1 h2 h3
    obtain ⟨a1, a2⟩ := ha
    rw [hb, List.length_append] at hn
    rcases hL t (by simp) with ⟨k, k1, k2, k3⟩ | ⟨k, k1, k2, k3⟩ | ⟨k, k1, k2, k3⟩
    · have ht : t = ⟨1, [], [], t.text⟩ := by cases t; simp_all
      have e1 : tokBytes t = put t.text := by unfold tokBytes; rw [if_pos k]
      have htx := hp (a1 k)
      subst htx
      rw [e1] at hn
      rw [hb, e1, toksN_text _ _ _ _ _ (fun x q => (put_mem _ x q).2) (by omega), List.nil_append]
      rw [ih true (put t.text) out _ (by rw [show decide (t.kind = 1) = true by simpa using k] at a2; exact a2) (fun q => by cases q) (by omega), flush_put _ _ k3, flush_nil, List.append_assoc]
      rw [← ht]
      rfl
    · have ht : t = ⟨2, t.name, t.ats, []⟩ := by cases t; simp_all
      have e1 : tokBytes t = [60] ++ t.name ++ written t.ats ++ [62] := by unfold tokBytes; rw [if_neg (by rw [k]; decide), if_pos k]
      have e2 : tokBytes t ++ bytes L = 60 :: (t.name ++ (written t.ats ++ 62 :: bytes L)) := by rw [e1]; simp
      have e3 : (tokBytes t).length ≥ 1 := by rw [e1]; simp
      cases n with
      | zero => omega
      | succ n =>
        rw [hb, e2, toksN, if_pos rfl, here_open _ _ _ k1 k2]
        simp only
        rw [← ht, ih false [] _ n (by rw [show decide (t.kind = 1) = false by simp [k]] at a2; exact a2) (fun _ => rfl) (by omega), flush_nil, List.append_assoc]
        rfl
    · have ht : t = ⟨3, t.name, [], []⟩ := by cases t; simp_all
      have e1 : tokBytes t = [60, 47] ++ t.name ++ [62] := by unfold tokBytes; rw [if_neg (by rw [k]; decide), if_neg (by rw [k]; decide), if_pos k]
      have e2 : tokBytes t ++ bytes L = 60 :: 47 :: (t.name ++ 62 :: bytes L) := by rw [e1]; simp
      have e3 : (tokBytes t).length ≥ 1 := by rw [e1]; simp
      cases n with
      | zero => omega
      | succ n =>
        rw [hb, e2, toksN, if_pos rfl, here_close _ _ k1]
        simp only
        rw [← ht, ih false [] _ n (by rw [show decide (t.kind = 1) = false by simp [k]] at a2; exact a2) (fun _ => rfl) (by omega), flush_nil, List.append_assoc]
        rfl
theorem toks_bytes (L : List Tok) (h : ∀ t ∈ L, TokOk t) (ha : Adj false L) : toks (bytes L) = L := by
  unfold toks
  rw [read_list L false [] [] _ h ha (fun _ => rfl) (Nat.le_refl _), flush_nil, List.nil_append]
theorem flat_ok : ∀ (f : Fo) (names : List Bs) (prev : Bool), checkF f names prev = 0 → (∀ t ∈ flat f, TokOk t) ∧ ∀ m, Adj true m → Adj prev (flat f ++ m) := by
  intro f
  induction f with
  | nil => intro _ prev _; exact ⟨fun _ q => (by cases q), fun m h => h.weak prev⟩
  | node n a t k r ihk ihr =>
    intro names prev h
    obtain ⟨g1, g2, g3, g4⟩ := (checkF_node ..).1 h
    obtain ⟨r1, r2⟩ := ihr names _ g4
    by_cases hn : n = []
    · subst hn
      obtain ⟨q1, q2, q3⟩ := (nodeE_text ..).1 g1
      have e : flat (.node [] a t k r) = ⟨1, [], [], t⟩ :: flat r := by rw [flat, if_pos rfl]
      rw [e]
      refine ⟨fun x q => ?_, fun m hm => ?_⟩
      · rcases List.mem_cons.1 q with q | q
        · rw [q]; exact .inl ⟨rfl, rfl, rfl, q1⟩
        · exact r1 x q
      · exact ⟨fun _ => by cases prev with | false => rfl | true => exact absurd ⟨rfl, rfl⟩ g2, r2 m hm⟩
    · obtain ⟨e1, e2, e3, e4, e5⟩ := (nodeE_el _ _ hn _ _ _).1 g1
      obtain ⟨k1, k2⟩ := ihk _ false g3
      have e : flat (.node n a t k r) = ⟨2, n, a, []⟩ :: ((if emptyB n = true then [] else flat k ++ [⟨3, n, [], []⟩]) ++ flat r) := by rw [flat, if_neg hn]
      rw [show decide (n = []) = false by simp [hn]] at r2
      rw [e]
      refine ⟨fun x q => ?_, fun m hm => ?_⟩
      · rcases List.mem_cons.1 q with q | q
        · rw [q]; exact .inr (.inl ⟨rfl, e2, e4, rfl⟩)
        · rcases List.mem_append.1 q with q | q
          · split at q
            · cases q
            · rcases List.mem_append.1 q with q | q
              · exact k1 x q
              · rw [List.mem_singleton.1 q]; exact .inr (.inr ⟨rfl, e2, rfl, rfl⟩)
          · exact r1 x q
      · refine ⟨fun q => (by cases q), ?_⟩
        show Adj false (((if emptyB n = true then [] else flat k ++ [⟨3, n, [], []⟩]) ++ flat r) ++ m)
        split
        · exact r2 m hm
        · rw [List.append_assoc, List.append_assoc]
          exact k2 _ ⟨fun q => (by cases q), r2 m hm⟩
theorem read_flat (f : Fo) (hc : checkF f [] false = 0) : toks (bytes (flat f)) = flat f := by
  obtain ⟨h1, h2⟩ := flat_ok f [] false hc
  have := h2 [] trivial
  rw [List.append_nil] at this
  exact toks_bytes _ h1 this
end Mk

/- Bounds: at a text of at most 3000 bytes all that cleaning makes is small. No program in sight. -/
namespace Mk
open Bld
theorem sign_len (s : Bs) : (sign s).1.length ≤ 4 := by
  unfold sign
  split
  · simp
  · split
    · simp
    · split
      · exact utf8_len _
      · simp
theorem takeN_len : ∀ (n : Nat) (s : Bs), (takeN n s).1.length ≤ 4 * s.length
  | 0, s => by unfold takeN; exact Nat.zero_le _
  | n + 1, [] => by unfold takeN; exact Nat.zero_le _
  | n + 1, c :: t => by
    unfold takeN
    split
    · have h1 := sign_len (c :: t)
      have h2 := takeN_len n ((c :: t).drop (max 1 (sign (c :: t)).2.1))
      rw [List.length_drop] at h2
      simp only [List.length_append]
      simp only [List.length_cons] at h2 ⊢
      omega
    · have h2 := takeN_len n t
      simp only [List.length_cons]
      omega
theorem take_len (s : Bs) : (take s).1.length ≤ 4 * s.length := takeN_len _ s
theorem tw_dw (p : UInt8 → Bool) (l : Bs) : (l.takeWhile p).length + (l.dropWhile p).length = l.length := by
  rw [← List.length_append, List.takeWhile_append_dropWhile]
theorem valueOf_len {r v r' : Bs} (h : valueOf r = some (v, r')) : v.length + r'.length ≤ r.length := by
  unfold valueOf at h
  split at h
  · injection h with h
    injection h with h1 h2
    rw [← h1, ← h2]
    exact Nat.zero_le _
  · rename_i q t heq
    have hl := tw_dw white r
    rw [heq, List.length_cons] at hl
    split at h
    · split at h
      · cases h
      · rename_i _ _ y u heq2
        injection h with h
        injection h with h1 h2
        have hl2 := tw_dw (fun x => x != q) t
        rw [heq2, List.length_cons] at hl2
        rw [← h1, ← h2]
        omega
    · injection h with h
      injection h with h1 h2
      have hl2 := tw_dw (fun c => !white c && c != 62) (q :: t)
      rw [h1, h2, List.length_cons] at hl2
      omega
theorem atB_app1 (l : List At) (a : At) : Fo.atB (l ++ [a]) = Fo.atB l + (1 + a.n.length + a.v.length) := by simp [Fo.atB]
theorem attrsN_bulk : ∀ (n : Nat) (r : Bs) (out l : List At) (rest : Bs), attrsN n r out = some (l, rest) → Fo.atB l + 8 * rest.length ≤ Fo.atB out + 8 * r.length
  | 0, _, _, _, _, h => by cases h
  | n + 1, r, out, l, rest, h => by
    unfold attrsN at h
    split at h
    · cases h
    · rename_i c t heq
      have hl := tw_dw (fun c => white c || c == 47) r
      rw [heq, List.length_cons] at hl
      split at h
      · injection h with h
        injection h with h1 h2
        rw [← h1, ← h2]
        omega
      · simp only at h
        split at h
        · cases h
        · rename_i v r4 hm
          have ih := attrsN_bulk n r4 _ l rest h
          have l2 := tw_dw atStop t
          have l3 := tw_dw white (t.dropWhile atStop)
          have lf : (Mg.fold (c :: t.takeWhile atStop)).length = (t.takeWhile atStop).length + 1 := by unfold Mg.fold; simp
          have lv : v.length + 4 * r4.length ≤ 4 * ((t.dropWhile atStop).dropWhile white).length := by
            generalize (t.dropWhile atStop).dropWhile white = r3 at hm
            split at hm
            · cases hv : valueOf r3.tail with
              | none => rw [hv] at hm; cases hm
              | some x =>
                rw [hv] at hm
                injection hm with hm
                injection hm with m1 m2
                obtain ⟨x1, x2⟩ := x
                have k1 := valueOf_len hv
                have k2 := take_len x1
                have k3 : r3.tail.length ≤ r3.length := by rw [List.length_tail]; omega
                simp only at m1 m2
                rw [← m1, ← m2]
                omega
            · injection hm with hm
              injection hm with m1 m2
              rw [← m1, ← m2]
              simp
          have ho : Fo.atB (if (isName (Mg.fold (c :: t.takeWhile atStop)) && !hasAt out (Mg.fold (c :: t.takeWhile atStop))) = true then out ++ [⟨Mg.fold (c :: t.takeWhile atStop), v⟩] else out) ≤ Fo.atB out + (1 + (Mg.fold (c :: t.takeWhile atStop)).length + v.length) := by
            split
            · rw [atB_app1]
              exact Nat.le_refl _
            · omega
          omega
theorem behind_len (p : Bs) : ∀ (r rest : Bs), behind p r = some rest → rest.length ≤ r.length
  | [], rest, h => by
    unfold behind at h
    split at h
    · injection h with h
      rw [← h]
      exact Nat.le_refl _
    · cases h
  | c :: t, rest, h => by
    unfold behind at h
    split at h
    · injection h with h
      rw [← h, List.length_drop]
      omega
    · have := behind_len p t rest h
      rw [List.length_cons]
      omega
theorem fold_len (l : Bs) : (Mg.fold l).length = l.length := by unfold Mg.fold; simp
theorem hereAt_bulk (c : UInt8) (tl : Bs) : (∀ rest, hereAt (c :: tl) = .gone rest → rest.length ≤ tl.length + 1) ∧ ∀ k rest, hereAt (c :: tl) = .tag k rest → 2 + k.name.length + k.text.length + Fo.atB k.ats + 8 * rest.length ≤ 8 * (tl.length + 1) := by
  have hp : ∀ p r, r.length ≤ tl.length + 1 → (∀ rest, passAt p r = .gone rest → rest.length ≤ tl.length + 1) ∧ ∀ k rest, passAt p r = .tag k rest → 2 + k.name.length + k.text.length + Fo.atB k.ats + 8 * rest.length ≤ 8 * (tl.length + 1) := by
    intro p r hr
    unfold passAt
    split
    · exact ⟨fun _ h => (by cases h), fun _ _ h => by cases h⟩
    · rename_i rest' hb
      refine ⟨fun rest h => ?_, fun _ _ h => by cases h⟩
      injection h with h
      have := behind_len p _ _ hb
      rw [← h]
      omega
  unfold hereAt
  split
  · unfold openAt
    rw [List.tail_cons]
    have hl := tw_dw tagStop tl
    have hf := fold_len (tl.takeWhile tagStop)
    simp only
    split
    · exact ⟨fun _ h => (by cases h), fun _ _ h => by cases h⟩
    · rename_i l rest' ha
      have hb := attrsN_bulk _ _ [] l rest' ha
      have e0 : Fo.atB [] = 0 := rfl
      split
      · refine ⟨fun _ h => (by cases h), fun k rest h => ?_⟩
        injection h with h1 h2
        rw [← h1, ← h2]
        simp only [List.length_nil]
        omega
      · refine ⟨fun rest h => ?_, fun _ _ h => by cases h⟩
        injection h with h
        rw [← h]
        omega
  · split
    · unfold closeAt
      have hl := tw_dw tagStop ((c :: tl).drop 2)
      have hd : ((c :: tl).drop 2).length ≤ tl.length := by rw [List.length_drop, List.length_cons]; omega
      have hf := fold_len (((c :: tl).drop 2).takeWhile tagStop)
      simp only
      split
      · exact ⟨fun _ h => (by cases h), fun _ _ h => by cases h⟩
      · rename_i rest' hb
        have hb2 := behind_len _ _ _ hb
        split
        · refine ⟨fun _ h => (by cases h), fun k rest h => ?_⟩
          injection h with h1 h2
          have e0 : Fo.atB [] = 0 := rfl
          rw [← h1, ← h2]
          simp only [List.length_nil]
          omega
        · refine ⟨fun rest h => ?_, fun _ _ h => by cases h⟩
          injection h with h
          rw [← h]
          omega
    · split
      · exact hp _ _ (by rw [List.length_drop, List.length_cons]; omega)
      · split
        · exact hp _ _ (by rw [List.length_cons]; omega)
        · exact ⟨fun _ h => (by cases h), fun _ _ h => by cases h⟩
theorem tokB_app (l m : List Tok) : tokB (l ++ m) = tokB l + tokB m := by simp [tokB]
theorem flush_bulk (text : Bs) (out : List Tok) : tokB (flush text out) ≤ tokB out + 8 * text.length := by
  have h := take_len text
  unfold flush
  simp only
  split
  · omega
  · rename_i hn
    have : (take text).1.length ≠ 0 := fun e => hn (List.eq_nil_of_length_eq_zero e)
    have e0 : Fo.atB [] = 0 := rfl
    have e1 : tokB [] = 0 := rfl
    rw [tokB_app, tokB_cons, e1]
    simp only [List.length_nil, e0]
    omega
theorem toksN_bulk : ∀ (n : Nat) (r text : Bs) (out : List Tok), tokB (toksN n r text out) ≤ tokB out + 8 * (text.length + r.length)
  | 0, r, text, out => by
    have e : toksN 0 r text out = flush text out := by unfold toksN; rfl
    have := flush_bulk text out
    rw [e]
    omega
  | n + 1, [], text, out => by
    have e : toksN (n + 1) [] text out = flush text out := by unfold toksN; rfl
    have := flush_bulk text out
    rw [e]
    omega
  | n + 1, c :: t, text, out => by
    unfold toksN
    rw [List.length_cons]
    split
    · obtain ⟨b1, b2⟩ := hereAt_bulk c t
      split
      · have := toksN_bulk n t (text ++ [60]) out
        rw [List.length_append, List.length_singleton] at this
        omega
      · have := flush_bulk (text ++ c :: t) out
        rw [List.length_append, List.length_cons] at this
        omega
      · rename_i rest hh
        have := toksN_bulk n rest text out
        have := b1 rest hh
        omega
      · rename_i k rest hh
        have h1 := toksN_bulk n rest [] (flush text out ++ [k])
        have h2 := b2 k rest hh
        have h3 := flush_bulk text out
        have e1 : tokB [] = 0 := rfl
        rw [tokB_app, tokB_cons, e1, List.length_nil] at h1
        omega
    · have := toksN_bulk n t (text ++ [c]) out
      rw [List.length_append, List.length_singleton] at this
      omega
theorem toks_bulk (s : Bs) : tokB (toks s) ≤ 8 * s.length := by
  have := toksN_bulk s.length s [] []
  have e1 : tokB [] = 0 := rfl
  rw [e1, List.length_nil] at this
  show tokB (toksN s.length s [] []) ≤ _
  omega
theorem fold_bulk : ∀ (l : List Tok) (b : Bld), Bld.bulk (l.foldl token b) ≤ Bld.bulk b + tokB l
  | [], b => by show Bld.bulk b ≤ _; omega
  | t :: l, b => by
    have h1 := fold_bulk l (b.token t)
    have h2 := token_bulk b t
    rw [List.foldl_cons, tokB_cons]
    omega
theorem build_bulk (l : List Tok) : (build l).bulk ≤ tokB l := by
  have h1 := fold_bulk l ⟨.nil, []⟩
  have h2 := close_bulk (l.foldl token ⟨.nil, []⟩) 0
  have h3 := close_zero (l.foldl token ⟨.nil, []⟩)
  have h4 := fos_zero _ h3
  have h5 : Bld.bulk ((l.foldl token ⟨.nil, []⟩).close 0) = (build l).bulk := by
    unfold Bld.bulk
    rw [h3, h4, foB_one]
    unfold build
    simp [opB]
  have h6 : Bld.bulk ⟨.nil, []⟩ = 0 := rfl
  omega
theorem put_len (t : Bs) : (put t).length ≤ 6 * t.length := by
  induction t with
  | nil => exact Nat.zero_le _
  | cons c t ih =>
    have h : (esc c).length ≤ 6 := by
      unfold esc
      repeat' split
      all_goals simp
    have e : put (c :: t) = esc c ++ put t := rfl
    rw [e, List.length_append, List.length_cons]
    omega
theorem written_bulk : ∀ l : List At, (written l).length ≤ 6 * Fo.atB l
  | [] => Nat.zero_le _
  | a :: l => by
    have h1 := written_bulk l
    have h2 := put_len a.v
    have e : Fo.atB (a :: l) = 1 + a.n.length + a.v.length + Fo.atB l := by simp [Fo.atB]
    rw [written_cons, e]
    simp only [List.length_cons, List.length_append]
    omega
theorem bytes_app (l m : List Tok) : bytes (l ++ m) = bytes l ++ bytes m := List.flatMap_append ..
theorem bytes_bulk : ∀ f : Fo, (bytes (flat f)).length ≤ 16 * f.bulk := by
  intro f
  induction f with
  | nil => exact Nat.zero_le _
  | node n a t k r ihk ihr =>
    have e : Fo.bulk (.node n a t k r) = 1 + n.length + t.length + Fo.atB a + Fo.bulk k + Fo.bulk r := rfl
    rw [e]
    by_cases hn : n = []
    · have e2 : flat (.node n a t k r) = [⟨1, [], [], t⟩] ++ flat r := by rw [flat, if_pos hn]; rfl
      have h1 := put_len t
      have e3 : bytes [(⟨1, [], [], t⟩ : Tok)] = put t := by
        show tokBytes ⟨1, [], [], t⟩ ++ [] = _
        rw [List.append_nil]
        rfl
      rw [e2, bytes_app, e3, List.length_append]
      omega
    · have e2 : flat (.node n a t k r) = [⟨2, n, a, []⟩] ++ ((if emptyB n = true then [] else flat k ++ [⟨3, n, [], []⟩]) ++ flat r) := by rw [flat, if_neg hn]; rfl
      have h1 := written_bulk a
      have e3 : (bytes [(⟨2, n, a, []⟩ : Tok)]).length = 2 + n.length + (written a).length := by
        show (([60] ++ n ++ written a ++ [62]) ++ []).length = _
        simp
        omega
      have e4 : (bytes [(⟨3, n, [], []⟩ : Tok)]).length = 3 + n.length := by
        show (([60, 47] ++ n ++ [62]) ++ []).length = _
        simp
        omega
      rw [e2, bytes_app, bytes_app, List.length_append, List.length_append, e3]
      split
      · have : (bytes []).length = 0 := rfl
        omega
      · rw [bytes_app, List.length_append, e4]
        omega
theorem flat_mem : ∀ (f : Fo) (t : Tok), t ∈ flat f → t.text.length ≤ f.bulk ∧ ∀ a ∈ t.ats, a.v.length ≤ f.bulk := by
  intro f
  induction f with
  | nil => intro t h; cases h
  | node n a t k r ihk ihr =>
    intro x h
    have e : Fo.bulk (.node n a t k r) = 1 + n.length + t.length + Fo.atB a + Fo.bulk k + Fo.bulk r := rfl
    rw [e]
    have hr : x ∈ flat r → x.text.length ≤ 1 + n.length + t.length + Fo.atB a + Fo.bulk k + Fo.bulk r ∧ ∀ b ∈ x.ats, b.v.length ≤ 1 + n.length + t.length + Fo.atB a + Fo.bulk k + Fo.bulk r := fun q => by
      obtain ⟨q1, q2⟩ := ihr x q
      exact ⟨by omega, fun b hb => by have := q2 b hb; omega⟩
    by_cases hn : n = []
    · rw [flat, if_pos hn] at h
      rcases List.mem_cons.1 h with q | q
      · rw [q]
        exact ⟨by simp only; omega, fun b hb => by cases hb⟩
      · exact hr q
    · rw [flat, if_neg hn] at h
      rcases List.mem_cons.1 h with q | q
      · rw [q]
        refine ⟨by simp only [List.length_nil]; omega, fun b hb => ?_⟩
        have h9 : 1 + b.n.length + b.v.length ≤ Fo.atB a := atB_mem hb
        omega
      · rcases List.mem_append.1 q with q | q
        · split at q
          · cases q
          · rcases List.mem_append.1 q with q | q
            · obtain ⟨q1, q2⟩ := ihk x q
              exact ⟨by omega, fun b hb => by have := q2 b hb; omega⟩
            · rw [List.mem_singleton.1 q]
              exact ⟨by simp only [List.length_nil]; omega, fun b hb => by cases hb⟩
        · exact hr q
theorem clean_bulk (base : Bs) (f : Fo) : (clean base f).bulk ≤ 3001 * f.bulk := by
  have := (cleanOn_bulk base f .nil).1
  have e : Fo.bulk .nil = 0 := rfl
  unfold clean
  omega
theorem fits (base s : Bs) (hs : s.length ≤ 3000) : Fits base s := by
  have h1 := toks_bulk s
  have h2 := build_bulk (toks s)
  have h3 := clean_bulk base (build (toks s))
  have h4 := bytes_bulk (clean base (build (toks s)))
  refine ⟨hs, by omega, by omega, by omega, ?_⟩
  show (bytes (flat (clean base (build (toks s))))).length ≤ _
  omega
end Mk

/- Bounds on what the reference's builder builds. No program in sight. -/
namespace Mk
open Fo Bld
theorem app_bulk2 : ∀ (f g : Fo), (f.app g).bulk = f.bulk + g.bulk
  | .nil, g => by show g.bulk = 0 + g.bulk; omega
  | .node n a t k r, g => by
    have := app_bulk2 r g
    show 1 + n.length + t.length + atB a + k.bulk + (r.app g).bulk = 1 + n.length + t.length + atB a + k.bulk + r.bulk + g.bulk
    omega
theorem boR_bulk : ∀ (N : Nat) (l : List Tok) (op : List Bs) (out : Fo), l.length ≤ N → (boR l op out).1.bulk + tokB (boR l op out).2.1 ≤ out.bulk + tokB l
  | _, [], op, out, _ => Nat.le_refl _
  | 0, t :: r, op, out, h => by simp at h
  | N + 1, t :: r, op, out, h => by
    have h : r.length ≤ N := by simpa using h
    have e0 : Fo.bulk .nil = 0 := rfl
    have ha : Fo.atB [] = 0 := rfl
    have hc := tokB_cons t r
    rw [boR_cons]
    split
    · have h1 := boR_bulk N r op (snoc [] [] t.text nil out) h
      have h2 := snoc_bulk out [] [] t.text nil
      simp only [List.length_nil] at h2
      omega
    split
    · split
      · have h1 := boR_bulk N r op out h
        omega
      · simp only; omega
    split
    · exact Nat.le_refl _
    split
    · have h1 := boR_bulk N r op out h
      omega
    split
    · have h1 := boR_bulk N r op (out.app (node t.name t.ats [] nil nil)) h
      have h2 := app_bulk2 out (node t.name t.ats [] nil nil)
      have h3 : (node t.name t.ats [] nil nil).bulk = 1 + t.name.length + 0 + atB t.ats + 0 + 0 := rfl
      omega
    have h1 := boR_bulk N r (op ++ [t.name]) nil h
    have hl := boR_len r (op ++ [t.name]) nil
    generalize boR r (op ++ [t.name]) nil = x at h1 hl ⊢
    have h2 := app_bulk2 out (node t.name t.ats [] x.1 nil)
    have h3 : (node t.name t.ats [] x.1 nil).bulk = 1 + t.name.length + 0 + atB t.ats + x.1.bulk + 0 := rfl
    split
    · simp only; omega
    · have h4 := boR_bulk N x.2.1 op (out.app (node t.name t.ats [] x.1 nil)) (by omega)
      omega
theorem app_count2 : ∀ (f g : Fo), (f.app g).count = f.count + g.count
  | .nil, g => by show g.count = 0 + g.count; omega
  | .node n a t k r, g => by
    have := app_count2 r g
    show k.count + (r.app g).count + 1 = k.count + r.count + 1 + g.count
    omega
theorem boR_count : ∀ (N : Nat) (l : List Tok) (op : List Bs) (out : Fo), l.length ≤ N → (boR l op out).1.count + (boR l op out).2.1.length ≤ out.count + l.length
  | _, [], op, out, _ => Nat.le_refl _
  | 0, t :: r, op, out, h => by simp at h
  | N + 1, t :: r, op, out, h => by
    have h : r.length ≤ N := by simpa using h
    have e0 : Fo.count .nil = 0 := rfl
    rw [boR_cons, List.length_cons]
    split
    · have h1 := boR_count N r op (snoc [] [] t.text nil out) h
      have h2 := snoc_count [] [] t.text nil out
      omega
    split
    · split
      · have h1 := boR_count N r op out h
        omega
      · simp only; omega
    split
    · exact Nat.le_refl _
    split
    · have h1 := boR_count N r op out h
      omega
    split
    · have h1 := boR_count N r op (out.app (node t.name t.ats [] nil nil)) h
      have h2 := app_count2 out (node t.name t.ats [] nil nil)
      have h3 : (node t.name t.ats [] nil nil).count = 0 + 0 + 1 := rfl
      omega
    have h1 := boR_count N r (op ++ [t.name]) nil h
    have hl := boR_len r (op ++ [t.name]) nil
    generalize boR r (op ++ [t.name]) nil = x at h1 hl ⊢
    have h2 := app_count2 out (node t.name t.ats [] x.1 nil)
    have h3 : (node t.name t.ats [] x.1 nil).count = x.1.count + 0 + 1 := rfl
    split
    · simp only; omega
    · have h4 := boR_count N x.2.1 op (out.app (node t.name t.ats [] x.1 nil)) (by omega)
      omega
theorem build_count (l : List Tok) (h : ∀ t ∈ l, TokOk t) : (build l).count ≤ l.length := by
  have h1 := boR_count l.length l [] nil (Nat.le_refl _)
  rw [boR_build l h] at h1
  have e0 : Fo.count .nil = 0 := rfl
  omega
theorem build_checkT (l : List Tok) (h : ∀ t ∈ l, TokOk t) (hl : l.length ≤ 3000) : checkT (build l) = 0 := by
  obtain ⟨h1, h2⟩ := build_ok l h
  have h3 := build_count l h
  have h4 := size_to _ 8 (check_right _ [] false h1) h2
  unfold checkT
  rw [h4, if_neg (by simp only; omega)]
  exact h1
end Mk

/- Plain laws of a run of bytes, as a loop goes over it, and of signs that are told. No program in sight. -/
namespace Mk
/-- the first bytes of a text are such. -/
def Runs (q : UInt8 → Bool) (l : Bs) (n : Nat) : Prop := n ≤ l.length ∧ ∀ x ∈ l.take n, q x = true
theorem Runs.zero (q : UInt8 → Bool) (l : Bs) : Runs q l 0 := ⟨Nat.zero_le _, fun x h => by simp at h⟩
theorem Runs.succ {q : UInt8 → Bool} {l : Bs} {n : Nat} (h : Runs q l n) (hn : n < l.length) (hq : q l[n] = true) : Runs q l (n + 1) := by
  refine ⟨hn, fun x hx => ?_⟩
  rw [List.take_succ_eq_append_getElem hn] at hx
  rcases List.mem_append.1 hx with h1 | h1
  · exact h.2 x h1
  · rw [List.mem_singleton] at h1
    rw [h1]
    exact hq
theorem runs_ends (q : UInt8 → Bool) : ∀ (l : Bs) (n : Nat), Runs q l n → (n = l.length ∨ ∃ h : n < l.length, q l[n] = false) → l.takeWhile q = l.take n ∧ l.dropWhile q = l.drop n
  | [], n, _, _ => by simp
  | c :: t, 0, _, h => by
    rcases h with h | ⟨h, hq⟩
    · simp at h
    · have hq : q c = false := hq
      rw [List.takeWhile_cons_of_neg (by rw [hq]; decide), List.dropWhile_cons_of_neg (by rw [hq]; decide)]
      exact ⟨rfl, rfl⟩
  | c :: t, n + 1, hr, h => by
    have hc : q c = true := hr.2 c (by simp)
    obtain ⟨e1, e2⟩ := runs_ends q t n ⟨by have := hr.1; simpa using this, fun x hx => hr.2 x (by simp [hx])⟩ (by
      rcases h with h | ⟨h, hq⟩
      · exact .inl (by simpa using h)
      · exact .inr ⟨by simpa using h, by simpa using hq⟩)
    rw [List.takeWhile_cons_of_pos hc, List.dropWhile_cons_of_pos hc, e1, e2]
    exact ⟨rfl, rfl⟩
end Mk

/- Plain laws of a loop that goes over bytes as long as they are such. No program in sight. -/
namespace Mk
/-- all bytes from a place up to another are such. -/
def RunTo (q : UInt8 → Bool) (s : Bs) (j i : Nat) : Prop := j ≤ i ∧ i ≤ s.length ∧ ∀ (m : Nat) (h : m < s.length), j ≤ m → m < i → q s[m] = true
def RunEnd (q : UInt8 → Bool) (s : Bs) (i : Nat) : Prop := i = s.length ∨ ∃ h : i < s.length, q s[i] = false
theorem RunTo.start {q : UInt8 → Bool} {s : Bs} {j : Nat} (h : j ≤ s.length) : RunTo q s j j := ⟨Nat.le_refl _, h, fun m _ h1 h2 => by omega⟩
theorem RunTo.next {q : UInt8 → Bool} {s : Bs} {j i : Nat} (h : RunTo q s j i) (hl : i < s.length) (x : UInt8) (hx : s[i] = x) (hq : q x = true) : RunTo q s j (i + 1) :=
  ⟨Nat.le_succ_of_le h.1, hl, fun m hm h1 h2 => by
    by_cases e : m = i
    · subst e; rw [hx]; exact hq
    · exact h.2.2 m hm h1 (by omega)⟩
theorem RunEnd.at_ {q : UInt8 → Bool} {s : Bs} {i : Nat} (hl : i < s.length) (x : UInt8) (hx : s[i] = x) (hq : q x = false) : RunEnd q s i := .inr ⟨hl, by rw [hx]; exact hq⟩
theorem run_end (q : UInt8 → Bool) (s : Bs) (i : Nat) (he : RunEnd q s i) : ∀ n j, i = j + n → RunTo q s j i → (s.drop j).dropWhile q = s.drop i ∧ (s.drop j).takeWhile q = (s.drop j).take n
  | 0, j, e, h => by
    have e : i = j := e
    subst e
    rcases he with he | ⟨hl, hq⟩
    · rw [List.drop_of_length_le (by omega)]; exact ⟨rfl, rfl⟩
    · rw [List.drop_eq_getElem_cons hl, List.dropWhile_cons_of_neg (by rw [hq]; decide), List.takeWhile_cons_of_neg (by rw [hq]; decide)]
      exact ⟨rfl, rfl⟩
  | n + 1, j, e, h => by
    have hjl : j < s.length := by have := h.2.1; omega
    have hj := h.2.2 j hjl (Nat.le_refl _) (by omega)
    obtain ⟨h1, h2⟩ := run_end q s i he n (j + 1) (by omega) ⟨by omega, h.2.1, fun m hm a b => h.2.2 m hm (by omega) b⟩
    rw [List.drop_eq_getElem_cons hjl, List.dropWhile_cons_of_pos hj, List.takeWhile_cons_of_pos hj, h1, h2]
    exact ⟨rfl, rfl⟩
theorem run_drop {q : UInt8 → Bool} {s : Bs} {j i : Nat} (h : RunTo q s j i) (he : RunEnd q s i) : (s.drop j).dropWhile q = s.drop i := (run_end q s i he (i - j) j (by have := h.1; omega) h).1
theorem run_take {q : UInt8 → Bool} {s : Bs} {j i : Nat} (h : RunTo q s j i) (he : RunEnd q s i) : (s.drop j).takeWhile q = (s.drop j).take (i - j) := (run_end q s i he (i - j) j (by have := h.1; omega) h).2
theorem sep_of (c : UInt8) (w : Bool) (h : white c = w) : sepB c = (w || c == 47) := by unfold sepB; rw [h]
theorem stop_of (c : UInt8) (w : Bool) (h : white c = w) : atStop c = (!w && c != 47 && c != 62 && c != 61) := by unfold atStop; rw [h]
theorem tag_of (c : UInt8) (w : Bool) (h : white c = w) : tagStop c = (!w && c != 47 && c != 62) := by unfold tagStop; rw [h]
theorem white_of (c : UInt8) (w : Bool) (h : white c = w) : white c = w := h
theorem bare_of (c : UInt8) (w : Bool) (h : white c = w) : bareB c = (!w && c != 62) := by unfold bareB; rw [h]
theorem dw_at (q : UInt8) : ∀ (l : Bs) (x : UInt8) (u : Bs), l.dropWhile (· != q) = x :: u → ∃ m, nxt [q] l = some m ∧ m + 1 ≤ l.length ∧ l.takeWhile (· != q) = l.take m ∧ u = l.drop (m + 1)
  | [], x, u, h => by cases h
  | c :: t, x, u, h => by
    by_cases hc : c = q
    · subst hc
      rw [List.dropWhile_cons_of_neg (by simp)] at h
      injection h with h1 h2
      refine ⟨0, ?_, by simp, ?_, by rw [← h2]; rfl⟩
      · rw [nxt, if_pos (by simp [Mg.pre])]
      · rw [List.takeWhile_cons_of_neg (by simp)]; rfl
    · rw [List.dropWhile_cons_of_pos (by simpa using hc)] at h
      obtain ⟨m, h1, h2, h3, h4⟩ := dw_at q t x u h
      refine ⟨m + 1, ?_, by simp; omega, ?_, by rw [h4]; rfl⟩
      · rw [nxt, if_neg (by simp [Mg.pre, Ne.symm hc]; exact fun e => hc e), h1]; rfl
      · rw [List.takeWhile_cons_of_pos (by simpa using hc), h3]; rfl
theorem dw_no (q : UInt8) : ∀ (l : Bs), l.dropWhile (· != q) = [] → nxt [q] l = none
  | [], _ => rfl
  | c :: t, h => by
    by_cases hc : c = q
    · subst hc
      rw [List.dropWhile_cons_of_neg (by simp)] at h
      cases h
    · rw [List.dropWhile_cons_of_pos (by simpa using hc)] at h
      rw [nxt, if_neg (by simp [Mg.pre]; exact fun e => hc e), dw_no q t h]
      rfl
theorem hasAt_take (l : List At) (n : Bs) (i : Nat) (h : i < l.length) : hasAt (l.take (i + 1)) n = (hasAt (l.take i) n || l[i].n == n) := by
  unfold hasAt
  rw [List.take_succ_eq_append_getElem h, List.any_append]
  simp
theorem quote_of (q : UInt8) (h : q = 34 ∨ q = 39) : quoteB q = true := by rcases h with rfl | rfl <;> rfl
end Mk
namespace Go.Proofs.YteidgdpaolieaaaGreatDoor
open Go.RowKit
theorem AtsV.slice_at {w : World} {K : Nat → Prop} {v : Value} {l : List Mk.At} (h : AtsV w K v l) : ∃ ao cap, v = .slice ao l.length cap ∧ ∀ k (hk : k < l.length), ∃ g o, ao = some ⟨g, o, none⟩ ∧ K g ∧ w.cell? ⟨g, o + k * 2, none⟩ = some (.string (st l[k].n)) ∧ w.cell? ⟨g, o + k * 2 + 1, none⟩ = some (.string (st l[k].v)) := by
  obtain ⟨g, o, cap, hK, hv, hc⟩ := h.at_
  rcases hv with hv | ⟨ao, hv, hl⟩
  · exact ⟨_, _, hv, fun k hk => ⟨g, o, rfl, hK (by rintro rfl; simp at hk), (hc k hk).1, (hc k hk).2⟩⟩
  · exact ⟨ao, cap, by rw [hv, hl]; rfl, fun k hk => by rw [hl] at hk; simp at hk⟩
end Go.Proofs.YteidgdpaolieaaaGreatDoor

/- Contract of the reference's BuildOf at tokens that are right. -/
namespace Go.Proofs.YteidgdpaolieaaaGreatDoor
open Go.RowKit
def BuildC (L : List Mk.Tok) (k : Nat) : Prop := ∀ (v vo : Value) (op : List (List UInt8)) (K : Nat → Prop) (w : World), ToksV w K v L → StrsV w K vo op → (∀ b, K b → b < w.heap.size) → op.length ≤ 8 →
  Calls Tryz.prog 54 #[v, .int .i64 k, vo] w fun e w' => ∃ (v' : Value) (j : Nat), e = .returned (.tuple #[v', .int .i64 j, .int .i64 (Mk.boR (L.drop k) op .nil).2.2]) ∧ FoV w' (fun b => w.heap.size ≤ b ∧ b < w'.heap.size) v' (Mk.boR (L.drop k) op .nil).1 ∧ (Mk.boR (L.drop k) op .nil).2.1 = L.drop j ∧ k ≤ j ∧ j ≤ L.length ∧ Below w.heap.size w w'
set_option maxHeartbeats 16000000 in
set_option maxRecDepth 100000 in
theorem rf_BuildOf (L : List Mk.Tok) (hok : ∀ t ∈ L, Mk.Bld.TokOk t) (hbk : Mk.Bld.tokB L ≤ 549755813000) (N : Nat) : ∀ k, k ≤ L.length → L.length - k < N → BuildC L k := by
  induction N with
  | zero => intro k _ h; omega
  | succ N ih =>
    intro k hkl hkN v vo op K w hv hvo hK hop
    have hst : ∀ l : List UInt8, (st l).toList = l := fun l => Lib.toList_data _
    have hLl : L.length ≤ 549755813000 := by have := Mk.Bld.tokB_len L; omega
    obtain ⟨ao, cap, hv1, hlm, hat⟩ := hv.at_
    subst hv1
    obtain ⟨aop, capp, hvo1, hcapp, hcapm, hsat⟩ := hvo.at_
    subst hvo1
    have HAT := Lib.hid hat
    have HSA := Lib.hid hsat
    have HV := Lib.hid hv
    have HVO := Lib.hid hvo
    have HK := Lib.hid hK
    have HOK := Lib.hid hok
    have IH := Lib.hid ih
    clear hat hsat hv hvo hK ih
    go_enter Tryz.func54, Tryz.ntmps54
    go_wp2_with fail
    go_loopw [1, 9] (fun av ov wx => ∃ (j : Nat) (f : Mk.Fo) (xs : List Value) (Kr : Nat → Prop), k ≤ j ∧ j ≤ L.length ∧ av = .int .i64 (j : Int) ∧ Hid (Mk.boR (L.drop k) op .nil = Mk.boR (L.drop j) op f) ∧ f.bulk + Mk.Bld.tokB (L.drop j) ≤ 549755813000 ∧ Hid (∀ b, Kr b → w.heap.size ≤ b) ∧ Hid (OwnF wx w.heap.size Kr ov f xs) ∧ Hid (Below w.heap.size w wx)) (fun av _ _ => L.length - (intOf av).toNat)
    case atStart =>
      refine ⟨k, .nil, [], (fun _ => False), Nat.le_refl _, hkl, rfl, rfl, ?_, fun _ h => h.elim, ⟨World.ownsRow_nil _ _ _ _, rfl, fun _ _ h => h, fun _ h => h.elim⟩, Below.refl _ _⟩
      have h1 : Mk.Bld.tokB (L.drop k) ≤ Mk.Bld.tokB L := by
        have e : L = L.take k ++ L.drop k := (List.take_append_drop k L).symm
        have h2 : Mk.Bld.tokB L = Mk.Bld.tokB (L.take k) + Mk.Bld.tokB (L.drop k) := by rw [← Mk.tokB_app, ← e]
        omega
      show 0 + _ ≤ _
      omega
    case round =>
      obtain ⟨j, f, xs, Kr, hkj, hj, rfl, HJ, hbj, HKR, OF, BL⟩ := hrel
      have hsz := BL.out.size
      by_cases hlt : j < L.length
      · obtain ⟨t, hjt⟩ : ∃ t, L[j] = t := ⟨_, rfl⟩
        have hjt2 : L[j]? = some t := by rw [List.getElem?_eq_getElem hlt, hjt]
        obtain ⟨g, o, aot, capt, hao, hKg, hva, y0, y1, y2, y3⟩ := HAT.out j t hjt2
        subst hao
        have hgl := HK.out g hKg
        rw [← BL.out.cell (p := ⟨g, _, none⟩) hgl] at y0 y1 y2 y3
        have hdr : L.drop j = t :: L.drop (j + 1) := by rw [List.drop_eq_getElem_cons hlt, hjt]
        have htk := HOK.out t (List.mem_of_getElem? hjt2)
        have hcons := Mk.boR_cons t (L.drop (j + 1)) op f
        rw [← hdr] at hcons
        have htb := Mk.Bld.tokB_cons t (L.drop (j + 1))
        rw [← hdr] at htb
        have hatl := Mk.atB_len t.ats
        have hfl := Mk.Fo.len_bulk f
        have hji : (j : Int) < L.length := by omega
        have hal := (Below.refl wr.heap.size wr).alloc (Nat.le_refl _) (.cells #[.int .i64 t.kind, .string (st t.name), .slice aot t.ats.length capt, .string (st t.text)] 94)
        have BL1 := Lib.hid (BL.out.trans (hal.mono hsz))
        have OF1 := Lib.hid (OF.out.frame hal.size (fun b hb _ => hal.block b hb))
        have PT := Lib.hid (Blk.new wr 94 #[.int .i64 t.kind, .string (st t.name), .slice aot t.ats.length capt, .string (st t.text)])
        have HVA := Lib.hid (hva.below HK.out BL1.out)
        have hTo : ∀ b, u9.ownBlock = some b → b < wr.heap.size := fun b q => (OF.out.own.lt b q).2
        have HTO := Lib.hid hTo
        have HCONS := Lib.hid hcons
        have HTK := Lib.hid htk
        have hTw : w.heap.size ≤ wr.heap.size := hsz
        clear hjt hjt2 hdr htk hcons hva HAT hal hTo OF hsz BL
        go_upto_region 4 with fail
        generalize (wr.alloc (.cells #[.int .i64 t.kind, .string (st t.name), .slice aot t.ats.length capt, .string (st t.text)] 94)) = w1 at BL1 OF1 PT HVA ⊢
        generalize wr.heap.size = T at PT HTO hTw ⊢
        clear y0 y1 y2 y3
        have d0 : w1.cell? ⟨T, 0, none⟩ = some (.int .i64 t.kind) := Blk.cell PT.out 0
        have d1 : w1.cell? ⟨T, 1, none⟩ = some (.string (st t.name)) := Blk.cell PT.out 1
        have d2 : w1.cell? ⟨T, 2, none⟩ = some (.slice aot t.ats.length capt) := Blk.cell PT.out 2
        have d3 : w1.cell? ⟨T, 3, none⟩ = some (.string (st t.text)) := Blk.cell PT.out 3
        have hTl : T < w1.heap.size := Blk.lt PT.out
        rcases HTK.out with ⟨hkd, hk1, hk2, hk3⟩ | ⟨hkd, hk1, hk2, hk3⟩ | ⟨hkd, hk1, hk2, hk3⟩
        · as_aux_lemma =>
          have HR : Hid (Mk.boR (L.drop k) op .nil = Mk.boR (L.drop (j + 1)) op (Mk.Fo.snoc [] [] t.text .nil f)) := by show _ = _; rw [HJ.out, HCONS.out, if_pos hkd]
          rw [hkd] at d0
          have hsb := Mk.Fo.snoc_bulk f [] [] t.text .nil
          have e0 : Mk.Fo.bulk .nil = 0 := rfl
          have e1 : Mk.Fo.atB [] = 0 := rfl
          simp only [List.length_nil, e0, e1] at hsb
          have hb2 : (Mk.Fo.snoc [] [] t.text .nil f).bulk + Mk.Bld.tokB (L.drop (j + 1)) ≤ 549755813000 := by omega
          have HJT := Lib.hid (rf_joinText f t.text u9 w.heap.size Kr xs w1 OF1.out BL1.out.size (by omega))
          clear hkd hk1 hk2 hk3 HTK HCONS HJ e0 e1 IH HSA HV HVO
          go_wp2_with fail
          refine HJT.out.mono ?_
          rintro e w2 ⟨v2, xs2, rfl, hof2, hap2, _⟩
          have BL2 := Lib.hid (BL1.out.trans (hap2.below BL1.out.size (fun b hb q => by have := (OF1.out.own.lt b q).1; omega)))
          have OF2 := Lib.hid hof2
          clear hof2 hap2 HJT OF1 BL1
          go_wp2_with fail
          go_roundw
          case rel => exact ⟨j + 1, _, xs2, Kr, by omega, hlt, by go_num, HR, hb2, HKR, OF2, BL2⟩
          case measure => simp [intOf]; omega
        · as_aux_lemma =>
          rw [hkd] at d0
          have hne : t.name ≠ [] := Mk.Bld.name_ne hk1
          have HC2 : Hid (Mk.boR (L.drop k) op .nil = if Mk.stays op t.name < op.length then (f, L.drop j, Mk.stays op t.name) else if op.length = 8 then Mk.boR (L.drop (j + 1)) op f else if Mk.emptyB t.name = true then Mk.boR (L.drop (j + 1)) op (f.app (.node t.name t.ats [] .nil .nil)) else if (Mk.boR (L.drop (j + 1)) (op ++ [t.name]) .nil).2.2 < op.length then (f.app (.node t.name t.ats [] (Mk.boR (L.drop (j + 1)) (op ++ [t.name]) .nil).1 .nil), (Mk.boR (L.drop (j + 1)) (op ++ [t.name]) .nil).2) else Mk.boR (Mk.boR (L.drop (j + 1)) (op ++ [t.name]) .nil).2.1 op (f.app (.node t.name t.ats [] (Mk.boR (L.drop (j + 1)) (op ++ [t.name]) .nil).1 .nil))) := by show _ = _; rw [HJ.out, HCONS.out, if_neg (by rw [hkd]; decide), if_neg (by rw [hkd]; decide)]
          have HNE := Lib.hid hne
          have HTX := Lib.hid hk3
          have HCL := Lib.hid (rf_Closes op t.name (.slice aop op.length capp) K w1 (HVO.out.frame (fun b q => ⟨q, BL1.out.block b (HK.out b q)⟩)) (by omega))
          clear hkd hk1 hk2 hk3 HTK HCONS HJ hne
          go_wp2_with fail
          refine HCL.out.mono ?_
          rintro e w9 ⟨rfl, hw9⟩
          subst w9
          obtain ⟨sy, hsy⟩ : ∃ sy, Mk.stays op t.name = sy := ⟨_, rfl⟩
          rw [hsy] at HC2 ⊢
          clear hsy HCL
          by_cases hs1 : sy < op.length
          · have HR : Hid (Mk.boR (L.drop k) op .nil = (f, L.drop j, sy)) := by show _ = _; rw [HC2.out, if_pos hs1]
            have hs2 : (sy : Int) < op.length := by omega
            clear HC2 IH HSA HV HVO
            as_aux_lemma =>
            go_wp2_with fail
            go_ret3
            refine ⟨u9, j, by rw [HR.out]; rfl, ?_, by rw [HR.out], hkj, hj, BL1.out⟩
            rw [HR.out]
            exact OF1.out.foV (fun b q => ⟨HKR.out b q, OF1.out.le b q⟩) (fun g q => OF1.out.own.lt g q)
          have hs2 : ¬ (sy : Int) < op.length := by omega
          have hc3 := HC2.out
          rw [if_neg hs1] at hc3
          have HC3 := Lib.hid hc3
          clear hc3 HC2 hs1
          by_cases h8 : op.length = 8
          · have HR : Hid (Mk.boR (L.drop k) op .nil = Mk.boR (L.drop (j + 1)) op f) := by show _ = _; rw [HC3.out, if_pos h8]
            have hb2 : f.bulk + Mk.Bld.tokB (L.drop (j + 1)) ≤ 549755813000 := by omega
            have h8b : ((op.length : Int) == 8) = true := by rw [beq_iff_eq]; omega
            clear HC3 IH HSA HV HVO h8
            as_aux_lemma =>
            go_wp2_with fail
            go_roundw
            case rel => exact ⟨j + 1, f, xs, Kr, by omega, hlt, by go_num, HR, hb2, HKR, OF1, BL1⟩
            case measure => simp [intOf]; omega
          have h8b : ((op.length : Int) == 8) = false := by rw [beq_eq_false_iff_ne]; omega
          have hop7 : op.length + 1 ≤ 8 := by omega
          have hc4 := HC3.out
          rw [if_neg h8] at hc4
          have HC4 := Lib.hid hc4
          clear hc4 HC3 h8
          have HAS : Hid (t.ats = [] ∨ ∃ ga oa, aot = some ⟨ga, oa, none⟩ ∧ ga < w1.heap.size ∧ ∀ i u, (atCells t.ats)[i]? = some u → w1.cell? ⟨ga, oa + i, none⟩ = some u) := by
            obtain ⟨ao', cap', z1, z2, _⟩ := HVA.out
            injection z1 with e1 e2 e3
            subst e1
            rcases z2 with z2 | ⟨ga, oa, z3, z4, z5⟩
            · left
              have := atCells_len t.ats
              rw [z2] at this
              exact List.eq_nil_of_length_eq_zero (by simp at this; omega)
            · exact .inr ⟨ga, oa, z3, Nat.lt_of_lt_of_le (HK.out ga z4) BL1.out.size, z5⟩
          go_upto_region 19 with fail
          go_cut [13] (fun p wx => ∃ P ao7 cap7, p = .pointer (some ⟨P, 0, none⟩) ∧ w1.heap.size ≤ P ∧ Hid (Below w1.heap.size w1 wx) ∧ Hid (Blk wx P 52 #[.string (st t.name), .slice ao7 t.ats.length cap7, .string ⟨#[]⟩, .slice none 0 0]) ∧ Hid (AtsV wx (fun b => w1.heap.size ≤ b ∧ b < wx.heap.size ∧ b ≠ P) (.slice ao7 t.ats.length cap7) t.ats))
          case first =>
            as_aux_lemma =>
            have HFR : Hid (∀ W, Below w1.heap.size w1 W → W.cell? ⟨T, 1, none⟩ = some (.string (st t.name)) ∧ W.cell? ⟨T, 2, none⟩ = some (.slice aot t.ats.length capt)) := fun W hW => ⟨(hW.cell (p := ⟨T, 1, none⟩) hTl).trans d1, (hW.cell (p := ⟨T, 2, none⟩) hTl).trans d2⟩
            obtain ⟨i0, hi, hz0, hz1, hz2⟩ := info_parts Tryz.infoAttr
            have hl2 := atCells_len t.ats
            have h1c := atCells_one t.ats
            have hatb : t.ats.length ≤ 1099511627776 := by omega
            have HOW : Hid (∀ W q, Blk W q 58 #[] → w1.heap.size ≤ q → W.ownsRow w1.heap.size 58 2 (.slice (some ⟨q, 0, none⟩) 0 0) 0 []) := fun W q hq hle => ⟨rfl, .inr ⟨q, 0, #[], rfl, hle, hq, Nat.le_refl _, Nat.zero_le _, rfl, rfl⟩⟩
            have HNW : Hid (∀ W, Below w1.heap.size w1 W → t.ats.length = 0 ∨ ∃ ad : Addr, aot = some ad ∧ ∀ (i : Nat) (u : Value), (atCells t.ats)[i]? = some u → W.cell? (ad.add i) = some u) := fun W hW => by
              rcases HAS.out with hnil | ⟨ga, oa, hga, hgl2, hcells⟩
              · left; rw [hnil]; rfl
              · refine .inr ⟨⟨ga, oa, none⟩, hga, fun i u q => ?_⟩
                rw [addr_add, ← hcells i u q]
                exact hW.cell (p := ⟨ga, oa + i, none⟩) hgl2
            have sE : (w1.alloc (.cells #[] 58)).heap.size = w1.heap.size + 1 := by simp
            have sN : (w1.alloc (.cells #[.string ⟨#[]⟩, .slice none 0 0, .string ⟨#[]⟩, .slice none 0 0] 52)).heap.size = w1.heap.size + 1 := by simp
            have beA := ((Below.refl w1.heap.size w1).alloc (Nat.le_refl _) (.cells #[] 58)).drew
            have beN := ((Below.refl w1.heap.size w1).alloc (Nat.le_refl _) (.cells #[.string ⟨#[]⟩, .slice none 0 0, .string ⟨#[]⟩, .slice none 0 0] 52)).drew
            have beB := (((Below.refl w1.heap.size w1).alloc (Nat.le_refl _) (.cells #[.string ⟨#[]⟩, .slice none 0 0, .string ⟨#[]⟩, .slice none 0 0] 52)).alloc (by simp) (.cells #[] 58)).drew
            have beC := (((Below.refl w1.heap.size w1).alloc (Nat.le_refl _) (.cells #[] 58)).alloc (by simp) (.cells #[.string ⟨#[]⟩, .slice none 0 0, .string ⟨#[]⟩, .slice none 0 0] 52)).drew
            have bA : Blk (w1.alloc (.cells #[] 58)).drew w1.heap.size 58 #[] := Blk.new w1 _ _
            have bB : Blk ((w1.alloc (.cells #[.string ⟨#[]⟩, .slice none 0 0, .string ⟨#[]⟩, .slice none 0 0] 52)).alloc (.cells #[] 58)).drew (w1.heap.size + 1) 58 #[] := by rw [← sN]; exact Blk.new (w1.alloc (.cells #[.string ⟨#[]⟩, .slice none 0 0, .string ⟨#[]⟩, .slice none 0 0] 52)) _ _
            have bC : Blk ((w1.alloc (.cells #[] 58)).alloc (.cells #[.string ⟨#[]⟩, .slice none 0 0, .string ⟨#[]⟩, .slice none 0 0] 52)).drew w1.heap.size 58 #[] := Blk.alloc (Blk.new w1 _ _) _
            have nB : Blk ((w1.alloc (.cells #[.string ⟨#[]⟩, .slice none 0 0, .string ⟨#[]⟩, .slice none 0 0] 52)).alloc (.cells #[] 58)).drew w1.heap.size 52 #[.string ⟨#[]⟩, .slice none 0 0, .string ⟨#[]⟩, .slice none 0 0] := Blk.alloc (Blk.new w1 _ _) _
            have nC : Blk ((w1.alloc (.cells #[] 58)).alloc (.cells #[.string ⟨#[]⟩, .slice none 0 0, .string ⟨#[]⟩, .slice none 0 0] 52)).drew (w1.heap.size + 1) 52 #[.string ⟨#[]⟩, .slice none 0 0, .string ⟨#[]⟩, .slice none 0 0] := by rw [← sE]; exact Blk.new (w1.alloc (.cells #[] 58)) _ _
            have owA := HOW.out _ _ bA (Nat.le_refl _)
            have owB := HOW.out _ _ bB (Nat.le_succ _)
            have owC := HOW.out _ _ bC (Nat.le_refl _)
            clear HC4 IH HSA HV HVO HAS
            go_region_held3 (fun w' => w'.cell? ⟨T, 1, none⟩ = some (.string (st t.name)) ∧ w'.cell? ⟨T, 2, none⟩ = some (.slice aot t.ats.length capt)) (first
              | exact HFR.out _ hB7
              | exact HFR.out _ (hB7.alloc hB7.size _)
              | exact HFR.out _ ((Below.refl _ _).drew)
              | exact HFR.out _ ((((hB7.setCell (p := ⟨w1.heap.size, 0, none⟩) (Nat.le_refl _) _).setCell (p := ⟨w1.heap.size, 1, none⟩) (Nat.le_refl _) _).setCell (p := ⟨w1.heap.size, 2, none⟩) (Nat.le_refl _) _).setCell (p := ⟨w1.heap.size, 3, none⟩) (Nat.le_refl _) _)
              | exact HFR.out _ ((((hB7.setCell (p := ⟨w1.heap.size + 1, 0, none⟩) (Nat.le_succ _) _).setCell (p := ⟨w1.heap.size + 1, 1, none⟩) (Nat.le_succ _) _).setCell (p := ⟨w1.heap.size + 1, 2, none⟩) (Nat.le_succ _) _).setCell (p := ⟨w1.heap.size + 1, 3, none⟩) (Nat.le_succ _) _)
              | exact HFR.out _ beA
              | exact HFR.out _ beN
              | exact HFR.out _ beB
              | exact HFR.out _ beC
              | fail "NO KEEP") (first | (refine wp_append_row_step rfl (.tmp 79) (.tmp 81) 50 rfl w1.heap.size 58 i0 (.agg #[.string ⟨#[]⟩, .string ⟨#[]⟩]) 2 32 Tryz.underlying50 hi hz0 hz1 hz2 rfl (by decide) (w1.heap.size) (by simp [Act.eval, Act.put]) owA aot t.ats.length capt (atCells t.ats) (by simp [Act.eval, Act.put]) hl2 (HNW.out _ beA) h1c (run_append_zero _ _ _ _) (by unfold maxLen; omega) (by omega) beA.size ?_; intro v7 w7 hown7 hg7 hf7; obtain ⟨ao7, cap7, rfl⟩ := own_slice hown7; have hB7 : Below w1.heap.size w1 w7 := beA.grown hg7 beA.size (fun q hq => by have hq : some (w1.heap.size) = some q := hq; injection hq with hq; omega)) | (refine wp_append_row_step rfl (.tmp 79) (.tmp 81) 50 rfl w1.heap.size 58 i0 (.agg #[.string ⟨#[]⟩, .string ⟨#[]⟩]) 2 32 Tryz.underlying50 hi hz0 hz1 hz2 rfl (by decide) (w1.heap.size + 1) (by simp [Act.eval, Act.put]) owB aot t.ats.length capt (atCells t.ats) (by simp [Act.eval, Act.put]) hl2 (HNW.out _ beB) h1c (run_append_zero _ _ _ _) (by unfold maxLen; omega) (by omega) beB.size ?_; intro v7 w7 hown7 hg7 hf7; obtain ⟨ao7, cap7, rfl⟩ := own_slice hown7; have hB7 : Below w1.heap.size w1 w7 := beB.grown hg7 beB.size (fun q hq => by have hq : some (w1.heap.size + 1) = some q := hq; injection hq with hq; omega); have PN : Hid (Blk w7 (w1.heap.size) 52 #[.string ⟨#[]⟩, .slice none 0 0, .string ⟨#[]⟩, .slice none 0 0]) := (hg7.block (w1.heap.size) (by first | (simp; done) | (simp; omega)) (fun e => by have e : some (w1.heap.size) = some (w1.heap.size + 1) := e; injection e with e; omega)).trans nB; have z0 : w7.cell? ⟨w1.heap.size, 0, none⟩ = some (.string ⟨#[]⟩) := Blk.cell PN.out 0; have g0 : w7.frozen? ⟨w1.heap.size, 0, none⟩ = false := Blk.frozen PN.out 0; have z1 : w7.cell? ⟨w1.heap.size, 1, none⟩ = some (.slice none 0 0) := Blk.cell PN.out 1; have g1 : w7.frozen? ⟨w1.heap.size, 1, none⟩ = false := Blk.frozen PN.out 1; have z2 : w7.cell? ⟨w1.heap.size, 2, none⟩ = some (.string ⟨#[]⟩) := Blk.cell PN.out 2; have g2 : w7.frozen? ⟨w1.heap.size, 2, none⟩ = false := Blk.frozen PN.out 2; have z3 : w7.cell? ⟨w1.heap.size, 3, none⟩ = some (.slice none 0 0) := Blk.cell PN.out 3; have g3 : w7.frozen? ⟨w1.heap.size, 3, none⟩ = false := Blk.frozen PN.out 3) | (refine wp_append_row_step rfl (.tmp 79) (.tmp 81) 50 rfl w1.heap.size 58 i0 (.agg #[.string ⟨#[]⟩, .string ⟨#[]⟩]) 2 32 Tryz.underlying50 hi hz0 hz1 hz2 rfl (by decide) (w1.heap.size) (by simp [Act.eval, Act.put]) owC aot t.ats.length capt (atCells t.ats) (by simp [Act.eval, Act.put]) hl2 (HNW.out _ beC) h1c (run_append_zero _ _ _ _) (by unfold maxLen; omega) (by omega) beC.size ?_; intro v7 w7 hown7 hg7 hf7; obtain ⟨ao7, cap7, rfl⟩ := own_slice hown7; have hB7 : Below w1.heap.size w1 w7 := beC.grown hg7 beC.size (fun q hq => by have hq : some (w1.heap.size) = some q := hq; injection hq with hq; omega); have PN : Hid (Blk w7 (w1.heap.size + 1) 52 #[.string ⟨#[]⟩, .slice none 0 0, .string ⟨#[]⟩, .slice none 0 0]) := (hg7.block (w1.heap.size + 1) (by first | (simp; done) | (simp; omega)) (fun e => by have e : some (w1.heap.size + 1) = some (w1.heap.size) := e; injection e with e; omega)).trans nC; have z0 : w7.cell? ⟨w1.heap.size + 1, 0, none⟩ = some (.string ⟨#[]⟩) := Blk.cell PN.out 0; have g0 : w7.frozen? ⟨w1.heap.size + 1, 0, none⟩ = false := Blk.frozen PN.out 0; have z1 : w7.cell? ⟨w1.heap.size + 1, 1, none⟩ = some (.slice none 0 0) := Blk.cell PN.out 1; have g1 : w7.frozen? ⟨w1.heap.size + 1, 1, none⟩ = false := Blk.frozen PN.out 1; have z2 : w7.cell? ⟨w1.heap.size + 1, 2, none⟩ = some (.string ⟨#[]⟩) := Blk.cell PN.out 2; have g2 : w7.frozen? ⟨w1.heap.size + 1, 2, none⟩ = false := Blk.frozen PN.out 2; have z3 : w7.cell? ⟨w1.heap.size + 1, 3, none⟩ = some (.slice none 0 0) := Blk.cell PN.out 3; have g3 : w7.frozen? ⟨w1.heap.size + 1, 3, none⟩ = false := Blk.frozen PN.out 3))
            · have ow8 := hown7
              have hs7 := hB7.size
              have at7 := AtsV.of_own (K := fun b => w1.heap.size ≤ b ∧ b < w7.heap.size) ow8 (fun q hq => ow8.lt q hq)
              have HREL := Lib.hid (And.intro hB7.size (And.intro (hB7.alloc hB7.size (.cells #[.string (st t.name), .slice ao7 t.ats.length cap7, .string ⟨#[]⟩, .slice none 0 0] 52)) (And.intro (Blk.new w7 52 #[.string (st t.name), .slice ao7 t.ats.length cap7, .string ⟨#[]⟩, .slice none 0 0]) (at7.frame (w' := w7.alloc (.cells #[.string (st t.name), .slice ao7 t.ats.length cap7, .string ⟨#[]⟩, .slice none 0 0] 52)) (K' := fun b => w1.heap.size ≤ b ∧ b < (w7.alloc (.cells #[.string (st t.name), .slice ao7 t.ats.length cap7, .string ⟨#[]⟩, .slice none 0 0] 52)).heap.size ∧ b ≠ w7.heap.size) (fun b q => ⟨⟨q.1, by have := q.2; simp; omega, by have := q.2; omega⟩, Below.heap_alloc w7 _ b q.2⟩)))))
              clear ow8 at7 hown7 hg7 hf7 hB7 HFR HOW HNW
              go_wp2_with fail
              go_meet
              case rel => exact ⟨_, ao7, cap7, rfl, HREL.out.1, HREL.out.2.1, HREL.out.2.2.1, HREL.out.2.2.2⟩
            · have ow8 := hown7
              have hPlt : (w1.heap.size + 1) < w7.heap.size := Blk.lt PN.out
              have at7 := AtsV.of_own (K := fun b => w1.heap.size ≤ b ∧ b < w7.heap.size ∧ b ≠ (w1.heap.size + 1)) ow8 (fun q hq => ⟨(ow8.lt q hq).1, (ow8.lt q hq).2, by rintro rfl; rcases hf7 with e | e; (have e : some (w1.heap.size + 1) = some (w1.heap.size) := hq.symm.trans e; injection e with e; omega); (have e := hq.symm.trans e; injection e with e; simp at e; try omega)⟩)
              have HREL := Lib.hid (And.intro (show w1.heap.size ≤ w1.heap.size + 1 from (Nat.le_succ _)) (And.intro (show Below w1.heap.size w1 (((((w7.setCell ⟨w1.heap.size + 1, 0, none⟩ (.string (st t.name))).setCell ⟨w1.heap.size + 1, 1, none⟩ (.slice ao7 t.ats.length cap7)).setCell ⟨w1.heap.size + 1, 2, none⟩ (.string ⟨#[]⟩)).setCell ⟨w1.heap.size + 1, 3, none⟩ (.slice none 0 0))) from ((((hB7.setCell (p := ⟨w1.heap.size + 1, 0, none⟩) (Nat.le_succ _) _).setCell (p := ⟨w1.heap.size + 1, 1, none⟩) (Nat.le_succ _) _).setCell (p := ⟨w1.heap.size + 1, 2, none⟩) (Nat.le_succ _) _).setCell (p := ⟨w1.heap.size + 1, 3, none⟩) (Nat.le_succ _) _)) (And.intro (Blk.set_ (Blk.set_ (Blk.set_ (Blk.set_ PN.out 0 (.string (st t.name))) 1 (.slice ao7 t.ats.length cap7)) 2 (.string ⟨#[]⟩)) 3 (.slice none 0 0)) (at7.frame (w' := ((((w7.setCell ⟨w1.heap.size + 1, 0, none⟩ (.string (st t.name))).setCell ⟨w1.heap.size + 1, 1, none⟩ (.slice ao7 t.ats.length cap7)).setCell ⟨w1.heap.size + 1, 2, none⟩ (.string ⟨#[]⟩)).setCell ⟨w1.heap.size + 1, 3, none⟩ (.slice none 0 0))) (K' := fun b => w1.heap.size ≤ b ∧ b < (((((w7.setCell ⟨w1.heap.size + 1, 0, none⟩ (.string (st t.name))).setCell ⟨w1.heap.size + 1, 1, none⟩ (.slice ao7 t.ats.length cap7)).setCell ⟨w1.heap.size + 1, 2, none⟩ (.string ⟨#[]⟩)).setCell ⟨w1.heap.size + 1, 3, none⟩ (.slice none 0 0))).heap.size ∧ b ≠ (w1.heap.size + 1)) (fun b q => ⟨⟨q.1, by have := q.2.1; simpa [World.setCell] using this, q.2.2⟩, by rw [Below.heap_setCell _ ⟨(w1.heap.size + 1), 3, none⟩ _ b q.2.2, Below.heap_setCell _ ⟨(w1.heap.size + 1), 2, none⟩ _ b q.2.2, Below.heap_setCell _ ⟨(w1.heap.size + 1), 1, none⟩ _ b q.2.2, Below.heap_setCell _ ⟨(w1.heap.size + 1), 0, none⟩ _ b q.2.2]⟩)))))
              clear ow8 at7 hown7 hg7 hf7 hB7 HFR HOW HNW
              go_wp2_with fail
              go_meet
              case rel => exact ⟨_, ao7, cap7, rfl, HREL.out.1, HREL.out.2.1, HREL.out.2.2.1, HREL.out.2.2.2⟩
            · have ow8 := hown7
              have hPlt : (w1.heap.size) < w7.heap.size := Blk.lt PN.out
              have at7 := AtsV.of_own (K := fun b => w1.heap.size ≤ b ∧ b < w7.heap.size ∧ b ≠ (w1.heap.size)) ow8 (fun q hq => ⟨(ow8.lt q hq).1, (ow8.lt q hq).2, by rintro rfl; rcases hf7 with e | e; (have e : some (w1.heap.size) = some (w1.heap.size + 1) := hq.symm.trans e; injection e with e; omega); (have e := hq.symm.trans e; injection e with e; simp at e; try omega)⟩)
              have HREL := Lib.hid (And.intro (show w1.heap.size ≤ w1.heap.size from (Nat.le_refl _)) (And.intro (show Below w1.heap.size w1 (((((w7.setCell ⟨w1.heap.size, 0, none⟩ (.string (st t.name))).setCell ⟨w1.heap.size, 1, none⟩ (.slice ao7 t.ats.length cap7)).setCell ⟨w1.heap.size, 2, none⟩ (.string ⟨#[]⟩)).setCell ⟨w1.heap.size, 3, none⟩ (.slice none 0 0))) from ((((hB7.setCell (p := ⟨w1.heap.size, 0, none⟩) (Nat.le_refl _) _).setCell (p := ⟨w1.heap.size, 1, none⟩) (Nat.le_refl _) _).setCell (p := ⟨w1.heap.size, 2, none⟩) (Nat.le_refl _) _).setCell (p := ⟨w1.heap.size, 3, none⟩) (Nat.le_refl _) _)) (And.intro (Blk.set_ (Blk.set_ (Blk.set_ (Blk.set_ PN.out 0 (.string (st t.name))) 1 (.slice ao7 t.ats.length cap7)) 2 (.string ⟨#[]⟩)) 3 (.slice none 0 0)) (at7.frame (w' := ((((w7.setCell ⟨w1.heap.size, 0, none⟩ (.string (st t.name))).setCell ⟨w1.heap.size, 1, none⟩ (.slice ao7 t.ats.length cap7)).setCell ⟨w1.heap.size, 2, none⟩ (.string ⟨#[]⟩)).setCell ⟨w1.heap.size, 3, none⟩ (.slice none 0 0))) (K' := fun b => w1.heap.size ≤ b ∧ b < (((((w7.setCell ⟨w1.heap.size, 0, none⟩ (.string (st t.name))).setCell ⟨w1.heap.size, 1, none⟩ (.slice ao7 t.ats.length cap7)).setCell ⟨w1.heap.size, 2, none⟩ (.string ⟨#[]⟩)).setCell ⟨w1.heap.size, 3, none⟩ (.slice none 0 0))).heap.size ∧ b ≠ (w1.heap.size)) (fun b q => ⟨⟨q.1, by have := q.2.1; simpa [World.setCell] using this, q.2.2⟩, by rw [Below.heap_setCell _ ⟨(w1.heap.size), 3, none⟩ _ b q.2.2, Below.heap_setCell _ ⟨(w1.heap.size), 2, none⟩ _ b q.2.2, Below.heap_setCell _ ⟨(w1.heap.size), 1, none⟩ _ b q.2.2, Below.heap_setCell _ ⟨(w1.heap.size), 0, none⟩ _ b q.2.2]⟩)))))
              clear ow8 at7 hown7 hg7 hf7 hB7 HFR HOW HNW
              go_wp2_with fail
              go_meet
              case rel => exact ⟨_, ao7, cap7, rfl, HREL.out.1, HREL.out.2.1, HREL.out.2.2.1, HREL.out.2.2.2⟩
          case rest =>
          as_aux_lemma =>
          obtain ⟨P, ao7, cap7, rfl, hPle, BLX, PBX, ATX⟩ := hcut
          obtain ⟨w2, hw2⟩ : ∃ x, x = wc := ⟨_, rfl⟩
          subst hw2
          have BL2 := Lib.hid (BL1.out.trans (BLX.out.mono BL1.out.size))
          have hP2 : P < w2.heap.size := Blk.lt PBX.out
          have hsX := BLX.out.size
          have e1 : w2.cell? ⟨T, 1, none⟩ = some (.string (st t.name)) := (BLX.out.cell (p := ⟨T, 1, none⟩) hTl).trans d1
          have hT2 : T < w2.heap.size := by omega
          have OF2 := Lib.hid (OF1.out.frame BLX.out.size (fun b hb _ => BLX.out.block b hb))
          have hK1 : ∀ b, Kr b → b < w1.heap.size := OF1.out.le
          have ho1 : ∀ b, u9.ownBlock = some b → b < w1.heap.size := fun b q => (OF1.out.own.lt b q).2
          have HK1 := Lib.hid hK1
          have HO1 := Lib.hid ho1
          clear d0 d1 d2 d3 hK1 ho1 OF1 HTO HTX HVA BLX HAS
          go_wp2_with fail
          refine (rf_IsEmpty t.name w2).mono ?_
          rintro e w9 ⟨rfl, hw9⟩
          subst w9
          have HMB : Hid (f.merges t.name = false) := by
            show _ = _
            rw [Bool.eq_false_iff]
            intro q
            exact HNE.out ((Mk.Fo.merges_iff _ _).1 q).1
          obtain ⟨i0, hi, hz0, hz1, hz2⟩ := info_parts Tryz.infoNode
          by_cases hem : Mk.emptyB t.name = true
          · as_aux_lemma =>
            have HR : Hid (Mk.boR (L.drop k) op .nil = Mk.boR (L.drop (j + 1)) op (f.app (.node t.name t.ats [] .nil .nil))) := by show _ = _; rw [HC4.out, if_pos hem]
            have hb2 : (f.app (.node t.name t.ats [] .nil .nil)).bulk + Mk.Bld.tokB (L.drop (j + 1)) ≤ 549755813000 := by
              have h2 := Mk.app_bulk2 f (.node t.name t.ats [] .nil .nil)
              have h3 : (Mk.Fo.node t.name t.ats [] .nil .nil).bulk = 1 + t.name.length + 0 + Mk.Fo.atB t.ats + 0 + 0 := rfl
              omega
            have OFK : Hid (OwnF w2 w.heap.size (fun b => Kr b ∨ (w1.heap.size ≤ b ∧ b < w2.heap.size ∧ b ≠ P)) u9 f xs) := by
              refine OF2.out.more (fun b q => .inl q) ?_ ?_
              · rintro g hg (q | q)
                · exact OF2.out.ne g hg q
                · have := HO1.out g hg; omega
              · rintro b (q | q)
                · have := HK1.out b q; omega
                · exact q.2.1
            have ATK : Hid (AtsV w2 (fun b => Kr b ∨ (w1.heap.size ≤ b ∧ b < w2.heap.size ∧ b ≠ P)) (.slice ao7 t.ats.length cap7) t.ats) := ATX.out.frame (fun b q => ⟨.inr q, rfl⟩)
            have q0 : w2.cell? ⟨P, 0, none⟩ = some (.string (st t.name)) := Blk.cell PBX.out 0
            have q1 : w2.cell? ⟨P, 1, none⟩ = some (.slice ao7 t.ats.length cap7) := Blk.cell PBX.out 1
            have q2 : w2.cell? ⟨P, 2, none⟩ = some (.string ⟨#[]⟩) := Blk.cell PBX.out 2
            have q3 : w2.cell? ⟨P, 3, none⟩ = some (.slice none 0 0) := Blk.cell PBX.out 3
            have hfl := Mk.Fo.len_bulk f
            have hsz2 := BL2.out.size
            have ow10 := own_ap' OFK.out.own ((Ap.refl (fun _ => False) w2).alloc (.cells #[.string (st t.name), .slice ao7 t.ats.length cap7, .string ⟨#[]⟩, .slice none 0 0] 52)) (fun _ _ q => q)
            have hal2 := (Below.refl w2.heap.size w2).alloc (Nat.le_refl _) (.cells #[.string (st t.name), .slice ao7 t.ats.length cap7, .string ⟨#[]⟩, .slice none 0 0] 52)
            clear HC4 IH HSA HV HVO OF2 ATX
            go_wp2_with (at_builtin; refine wpList_append_fresh rfl _ _ 22 rfl w.heap.size 52 i0 (.agg #[.string ⟨#[]⟩, .slice none 0 0, .string ⟨#[]⟩, .slice none 0 0]) 4 80 Tryz.underlying22 hi hz0 hz1 hz2 rfl (by decide) _ _ _ rfl ow10 ⟨w2.heap.size, 0, none⟩ 1 1 [.string (st t.name), .slice ao7 t.ats.length cap7, .string ⟨#[]⟩, .slice none 0 0] rfl rfl (cells_new _ _ _) (by intro u hu; simp at hu; rcases hu with rfl | rfl | rfl | rfl <;> rfl) (by decide) (by unfold maxLen; omega) (by omega) (by simp; omega) ?_)
            intro v' w5 hown' hgrow hfresh
            have hfr2 : v'.ownBlock = u9.ownBlock ∨ v'.ownBlock = some (w2.alloc (.cells #[.string (st t.name), .slice ao7 t.ats.length cap7, .string ⟨#[]⟩, .slice none 0 0] 52)).heap.size := hfresh.imp id (fun e => by rw [e]; simp)
            have OFP := OFK.out.pushed (t := []) ATK.out (ao := none) (cap := 0) (zs := []) (k := .nil) (.inl rfl) (Nat.zero_le _) rfl HMB.out hal2 hown' hgrow hfr2
            rw [Mk.Fo.snoc_app _ _ _ _ _ (fun q => HNE.out q.1)] at OFP
            have OFP := Lib.hid OFP
            have HKR4 : Hid (∀ b, (Kr b ∨ (w1.heap.size ≤ b ∧ b < w2.heap.size ∧ b ≠ P)) → w.heap.size ≤ b) := by
              rintro b (q | q)
              · exact HKR.out b q
              · have := BL1.out.size; omega
            have BL5 := Lib.hid (BL2.out.trans ((hal2.mono BL2.out.size).grown hgrow (by have := hal2.size; omega) (fun q hq => (OFK.out.own.lt q hq).1)))
            clear hown' hgrow hfresh hfr2 ow10 hal2 OFK ATK PBX q0 q1 q2 q3 HMB BL2 BL1 HKR hem
            go_wp2_with fail
            go_roundw
            case rel => exact ⟨j + 1, _, _, _, by omega, hlt, by go_num, HR, hb2, HKR4, OFP, BL5⟩
            case measure => simp [intOf]; omega
          have hem2 : Mk.emptyB t.name = false := by simpa using hem
          obtain ⟨X, hX⟩ : ∃ X, Mk.boR (L.drop (j + 1)) (op ++ [t.name]) .nil = X := ⟨_, rfl⟩
          have hbk1 := Mk.boR_bulk (L.drop (j + 1)).length (L.drop (j + 1)) (op ++ [t.name]) .nil (Nat.le_refl _)
          have hih := IH.out (j + 1) hlt (by omega)
          unfold BuildC at hih
          have hc5 := HC4.out
          rw [if_neg hem] at hc5
          rw [hX] at hbk1 hc5
          have HC5 := Lib.hid hc5
          have e0 : Mk.Fo.bulk .nil = 0 := rfl
          have hjc : ((j + 1 : Nat) : Int) = (j : Int) + 1 := by omega
          rw [hjc] at hih
          have HIH : Hid (∀ (W : World) (vo : Value), Below w2.heap.size w2 W → StrsV W (fun b => b < W.heap.size) vo (op ++ [t.name]) → Calls Tryz.prog 54 #[.slice (some ⟨g, o, none⟩) L.length cap, .int .i64 ((j : Int) + 1), vo] W fun e w' => ∃ (v' : Value) (jj : Nat), e = .returned (.tuple #[v', .int .i64 jj, .int .i64 X.2.2]) ∧ FoV w' (fun b => W.heap.size ≤ b ∧ b < w'.heap.size) v' X.1 ∧ X.2.1 = L.drop jj ∧ j + 1 ≤ jj ∧ jj ≤ L.length ∧ Below W.heap.size W w') := fun W vo hW hso => by
            have hWW := BL2.out.trans (hW.mono BL2.out.size)
            have hq := hih (.slice (some ⟨g, o, none⟩) L.length cap) vo (op ++ [t.name]) (fun b => b < W.heap.size) W (HV.out.frame (fun b q => ⟨Nat.lt_of_lt_of_le (HK.out b q) hWW.size, hWW.block b (HK.out b q)⟩)) hso (fun b q => q) (by rw [List.length_append]; simp; omega)
            rw [hX] at hq
            exact hq
          have HSO : Hid (∀ W, Below w2.heap.size w2 W → op.length = 0 ∨ ∃ ad : Addr, aop = some ad ∧ ∀ (m : Nat) (u : Value), (strVs op)[m]? = some u → W.cell? (ad.add m) = some u) := fun W hW => by
            have hWW := BL2.out.trans (hW.mono BL2.out.size)
            rcases HSA.out with h | ⟨g, o, h1, h2, h3⟩
            · left; rw [h]; rfl
            · refine .inr ⟨⟨g, o, none⟩, h1, fun m u q => ?_⟩
              have hm : m < op.length := by
                rcases Nat.lt_or_ge m op.length with q2 | q2
                · exact q2
                · rw [List.getElem?_eq_none (by simpa [strVs] using q2)] at q; cases q
              have hu : u = .string (st op[m]) := by
                have : (strVs op)[m]? = some (.string (st op[m])) := by simp [strVs, List.getElem?_eq_getElem hm]
                rw [this] at q
                injection q with q
                exact q.symm
              rw [addr_add, hu]
              exact (hWW.cell (p := ⟨g, o + m, none⟩) (HK.out g h2)).trans (h3 m hm)
          have hXb : f.bulk + X.1.bulk ≤ 549755813000 := by omega
          have hXT : ∀ jj, X.2.1 = L.drop jj → (f.app (.node t.name t.ats [] X.1 .nil)).bulk + Mk.Bld.tokB (L.drop jj) ≤ 549755813000 := fun jj q => by
            rw [q] at hbk1
            have h2 := Mk.app_bulk2 f (.node t.name t.ats [] X.1 .nil)
            have h3 : (Mk.Fo.node t.name t.ats [] X.1 .nil).bulk = 1 + t.name.length + 0 + Mk.Fo.atB t.ats + X.1.bulk + 0 := rfl
            omega
          have HXT := Lib.hid hXT
          clear hX hih hc5 HC4 IH HSA hbk1 e0 hjc hem hXT HV HVO
          go_upto_region 22 with fail
          go_cut [14, 15, 16] (fun a b c wx => ∃ ao9 cap9 jj, a = .slice ao9 X.1.len cap9 ∧ b = .int .i64 ((jj : Nat) : Int) ∧ c = .int .i64 X.2.2 ∧ j + 1 ≤ jj ∧ jj ≤ L.length ∧ Hid (X.2.1 = L.drop jj) ∧ Hid (Below w2.heap.size w2 wx) ∧ Hid (FoV wx (fun b => w2.heap.size ≤ b ∧ b < wx.heap.size) (.slice ao9 X.1.len cap9) X.1))
          case first =>
            as_aux_lemma =>
            have HFR : Hid (∀ W, Below w2.heap.size w2 W → W.cell? ⟨T, 1, none⟩ = some (.string (st t.name))) := fun W hW => (hW.cell (p := ⟨T, 1, none⟩) hT2).trans e1
            clear hi hz0 hz1 hz2
            obtain ⟨i1, hj1, hy0, hy1, hy2⟩ := info_parts Tryz.infoStr
            have hl2 : (strVs op).length = op.length * 1 := by simp [strVs]
            have h1c : ∀ u ∈ strVs op, u.oneCell' = true := by
              intro u hu
              unfold strVs at hu
              rw [List.mem_map] at hu
              obtain ⟨x, _, rfl⟩ := hu
              rfl
            have h1n : ∀ u ∈ [Value.string (st t.name)], u.oneCell' = true := by intro u hu; simp at hu; rw [hu]; rfl
            have HOW : Hid (∀ W q, Blk W q 9 #[] → w2.heap.size ≤ q → W.ownsRow w2.heap.size 9 1 (.slice (some ⟨q, 0, none⟩) 0 0) 0 []) := fun W q hq hle => ⟨rfl, .inr ⟨q, 0, #[], rfl, hle, hq, Nat.le_refl _, Nat.zero_le _, rfl, rfl⟩⟩
            have sE : (w2.alloc (.cells #[] 9)).heap.size = w2.heap.size + 1 := by simp
            have sN : (w2.alloc (.cells #[.string (st t.name)] 9)).heap.size = w2.heap.size + 1 := by simp
            have beA := ((Below.refl w2.heap.size w2).alloc (Nat.le_refl _) (.cells #[] 9)).drew
            have beN := ((Below.refl w2.heap.size w2).alloc (Nat.le_refl _) (.cells #[.string (st t.name)] 9)).drew
            have beB := (((Below.refl w2.heap.size w2).alloc (Nat.le_refl _) (.cells #[.string (st t.name)] 9)).alloc (by simp) (.cells #[] 9)).drew
            have beC := (((Below.refl w2.heap.size w2).alloc (Nat.le_refl _) (.cells #[] 9)).alloc (by simp) (.cells #[.string (st t.name)] 9)).drew
            have bA : Blk (w2.alloc (.cells #[] 9)).drew w2.heap.size 9 #[] := Blk.new w2 _ _
            have bB : Blk ((w2.alloc (.cells #[.string (st t.name)] 9)).alloc (.cells #[] 9)).drew (w2.heap.size + 1) 9 #[] := by rw [← sN]; exact Blk.new (w2.alloc (.cells #[.string (st t.name)] 9)) _ _
            have bC : Blk ((w2.alloc (.cells #[] 9)).alloc (.cells #[.string (st t.name)] 9)).drew w2.heap.size 9 #[] := Blk.alloc (Blk.new w2 _ _) _
            have nB : Blk ((w2.alloc (.cells #[.string (st t.name)] 9)).alloc (.cells #[] 9)).drew w2.heap.size 9 #[.string (st t.name)] := Blk.alloc (Blk.new w2 _ _) _
            have nC : Blk ((w2.alloc (.cells #[] 9)).alloc (.cells #[.string (st t.name)] 9)).drew (w2.heap.size + 1) 9 #[.string (st t.name)] := by rw [← sE]; exact Blk.new (w2.alloc (.cells #[] 9)) _ _
            have owA := HOW.out _ _ bA (Nat.le_refl _)
            have owB := HOW.out _ _ bB (Nat.le_succ _)
            have owC := HOW.out _ _ bC (Nat.le_refl _)
            clear HC5 HXT OF2 ATX PBX BL2 BL1 HNE HMB HKR sE sN bA bB bC
            go_region_held3 (fun w' => w'.cell? ⟨T, 1, none⟩ = some (.string (st t.name))) (first
              | exact HFR.out _ hB9
              | exact HFR.out _ hB8
              | exact HFR.out _ hB7
              | exact HFR.out _ (hB7.alloc hB7.size _)
              | exact HFR.out _ ((Below.refl _ _).drew)
              | exact HFR.out _ beA
              | exact HFR.out _ beN
              | exact HFR.out _ beB
              | exact HFR.out _ beC
              | fail "NO KEEP") (first | (go_at_call 54; refine (HIH.out _ _ hB8 SV8).mono ?_; rintro e w9 ⟨v9, jj, rfl, ⟨ao9, cap9, xs9, rfl, hq9⟩, hr9, hj9, hl9, hb9⟩; have hB9 : Below w2.heap.size w2 w9 := hB8.trans (hb9.mono hB8.size)) | (refine wp_append_row_step rfl (.tmp 94) (.tmp 95) 54 rfl w2.heap.size 9 i1 (.string ⟨#[]⟩) 1 16 Tryz.underlying54 hj1 hy0 hy1 hy2 rfl (by decide) (w2.heap.size) (by simp [Act.eval, Act.put]) owA aop op.length capp (strVs op) (by simp [Act.eval, Act.put]) hl2 (HSO.out _ beA) h1c (run_append_zeroS _ _ _ _) (by unfold maxLen; omega) (by omega) beA.size ?_; intro v7 w7 hown7 hg7 hf7; obtain ⟨ao7s, cap7s, rfl⟩ := own_slice hown7; have hB7 : Below w2.heap.size w2 w7 := beA.grown hg7 beA.size (fun q hq => by have hq : some (w2.heap.size) = some q := hq; injection hq with hq; omega); have hs7 := hB7.size) | (refine wp_append_row_step rfl (.tmp 94) (.tmp 95) 54 rfl w2.heap.size 9 i1 (.string ⟨#[]⟩) 1 16 Tryz.underlying54 hj1 hy0 hy1 hy2 rfl (by decide) (w2.heap.size + 1) (by simp [Act.eval, Act.put]) owB aop op.length capp (strVs op) (by simp [Act.eval, Act.put]) hl2 (HSO.out _ beB) h1c (run_append_zeroS _ _ _ _) (by unfold maxLen; omega) (by omega) beB.size ?_; intro v7 w7 hown7 hg7 hf7; obtain ⟨ao7s, cap7s, rfl⟩ := own_slice hown7; have hB7 : Below w2.heap.size w2 w7 := beB.grown hg7 beB.size (fun q hq => by have hq : some (w2.heap.size + 1) = some q := hq; injection hq with hq; omega); have hs7 := hB7.size; have PN : Blk w7 (w2.heap.size) 9 #[.string (st t.name)] := (hg7.block (w2.heap.size) (by first | (simp; done) | (simp; omega)) (fun e => by have e : some (w2.heap.size) = some (w2.heap.size + 1) := e; injection e with e; omega)).trans nB) | (refine wp_append_row_step rfl (.tmp 94) (.tmp 95) 54 rfl w2.heap.size 9 i1 (.string ⟨#[]⟩) 1 16 Tryz.underlying54 hj1 hy0 hy1 hy2 rfl (by decide) (w2.heap.size) (by simp [Act.eval, Act.put]) owC aop op.length capp (strVs op) (by simp [Act.eval, Act.put]) hl2 (HSO.out _ beC) h1c (run_append_zeroS _ _ _ _) (by unfold maxLen; omega) (by omega) beC.size ?_; intro v7 w7 hown7 hg7 hf7; obtain ⟨ao7s, cap7s, rfl⟩ := own_slice hown7; have hB7 : Below w2.heap.size w2 w7 := beC.grown hg7 beC.size (fun q hq => by have hq : some (w2.heap.size) = some q := hq; injection hq with hq; omega); have hs7 := hB7.size; have PN : Blk w7 (w2.heap.size + 1) 9 #[.string (st t.name)] := (hg7.block (w2.heap.size + 1) (by first | (simp; done) | (simp; omega)) (fun e => by have e : some (w2.heap.size + 1) = some (w2.heap.size) := e; injection e with e; omega)).trans nC) | (refine wp_append_fresh_step rfl (.tmp 96) (.tmp 99) 54 rfl w2.heap.size 9 i1 (.string ⟨#[]⟩) 1 16 Tryz.underlying54 hj1 hy0 hy1 hy2 rfl (by decide) (.slice ao7s op.length cap7s) op.length (strVs op) (by simp [Act.eval, Act.put]) (own_ap' hown7 ((Ap.refl (fun _ => False) w7).alloc (.cells #[.string (st t.name)] 9)) (fun _ _ q => q)) ⟨w7.heap.size, 0, none⟩ 1 1 [.string (st t.name)] (by simp [Act.eval, Act.put]) rfl (cells_new _ _ _) h1n (by decide) (by unfold maxLen; omega) (by omega) (hB7.alloc hB7.size (.cells #[.string (st t.name)] 9)).size ?_; intro v8 w8 hown8 hg8 hf8; obtain ⟨ao8, cap8, rfl⟩ := own_slice hown8; have hB8 : Below w2.heap.size w2 w8 := (hB7.alloc hB7.size (.cells #[.string (st t.name)] 9)).grown hg8 (hB7.alloc hB7.size (.cells #[.string (st t.name)] 9)).size (fun q hq => (hown7.lt q hq).1); have SV8 : StrsV w8 (fun b => b < w8.heap.size) (.slice ao8 (op.length + 1) cap8) (op ++ [t.name]) := StrsV.of_row hown8 (fun g q => (hown8.lt g q).2)) | (refine wp_append_fresh_step rfl (.tmp 96) (.tmp 99) 54 rfl w2.heap.size 9 i1 (.string ⟨#[]⟩) 1 16 Tryz.underlying54 hj1 hy0 hy1 hy2 rfl (by decide) (.slice ao7s op.length cap7s) op.length (strVs op) (by simp [Act.eval, Act.put]) (hown7) ⟨w2.heap.size, 0, none⟩ 1 1 [.string (st t.name)] (by simp [Act.eval, Act.put]) rfl (blk_news PN) h1n (by decide) (by unfold maxLen; omega) (by omega) (hB7).size ?_; intro v8 w8 hown8 hg8 hf8; obtain ⟨ao8, cap8, rfl⟩ := own_slice hown8; have hB8 : Below w2.heap.size w2 w8 := (hB7).grown hg8 (hB7).size (fun q hq => (hown7.lt q hq).1); have SV8 : StrsV w8 (fun b => b < w8.heap.size) (.slice ao8 (op.length + 1) cap8) (op ++ [t.name]) := StrsV.of_row hown8 (fun g q => (hown8.lt g q).2)) | (refine wp_append_fresh_step rfl (.tmp 96) (.tmp 99) 54 rfl w2.heap.size 9 i1 (.string ⟨#[]⟩) 1 16 Tryz.underlying54 hj1 hy0 hy1 hy2 rfl (by decide) (.slice ao7s op.length cap7s) op.length (strVs op) (by simp [Act.eval, Act.put]) (hown7) ⟨w2.heap.size + 1, 0, none⟩ 1 1 [.string (st t.name)] (by simp [Act.eval, Act.put]) rfl (blk_news PN) h1n (by decide) (by unfold maxLen; omega) (by omega) (hB7).size ?_; intro v8 w8 hown8 hg8 hf8; obtain ⟨ao8, cap8, rfl⟩ := own_slice hown8; have hB8 : Below w2.heap.size w2 w8 := (hB7).grown hg8 (hB7).size (fun q hq => (hown7.lt q hq).1); have SV8 : StrsV w8 (fun b => b < w8.heap.size) (.slice ao8 (op.length + 1) cap8) (op ++ [t.name]) := StrsV.of_row hown8 (fun g q => (hown8.lt g q).2)))
            all_goals
              have HREL : Hid (Below w2.heap.size w2 w9 ∧ FoV w9 (fun b => w2.heap.size ≤ b ∧ b < w9.heap.size) (.slice ao9 X.1.len cap9) X.1) := ⟨hB9, (show FoV w9 (fun b => w8.heap.size ≤ b ∧ b < w9.heap.size) (.slice ao9 X.1.len cap9) X.1 from ⟨ao9, cap9, xs9, rfl, hq9⟩).frame (fun b q => ⟨⟨Nat.le_trans hB8.size q.1, q.2⟩, rfl⟩)⟩
              have HR9 := Lib.hid hr9
              clear hB9 hq9 hr9 hb9 hB8 SV8 hown8 hg8 hf8 hB7 hown7 hg7 hf7 HFR HOW HIH HSO
              go_wp2_with fail
              go_meet
              case rel => exact ⟨ao9, cap9, jj, rfl, rfl, rfl, hj9, hl9, HR9, HREL.out.1, HREL.out.2⟩
          case rest =>
          as_aux_lemma =>
          obtain ⟨ao9, cap9, jj, rfl, rfl, rfl, hj9, hl9, HX9, BLY, FOY⟩ := hcut
          obtain ⟨w3, hw3⟩ : ∃ x, x = wc := ⟨_, rfl⟩
          subst hw3
          have PB3 := Lib.hid (Blk.below PBX.out BLY.out hP2)
          have p3 : w3.cell? ⟨P, 3, none⟩ = some (.slice none 0 0) := Blk.cell PB3.out 3
          have g3 : w3.frozen? ⟨P, 3, none⟩ = false := Blk.frozen PB3.out 3
          have PB4 : Hid (Blk (w3.setCell ⟨P, 3, none⟩ (.slice ao9 X.1.len cap9)) P 52 #[.string (st t.name), .slice ao7 t.ats.length cap7, .string ⟨#[]⟩, .slice ao9 X.1.len cap9]) := Blk.set_ PB3.out 3 _
          have s34 : (w3.setCell ⟨P, 3, none⟩ (.slice ao9 X.1.len cap9)).heap.size = w3.heap.size := by simp [World.setCell]
          have hb34 : ∀ b, b ≠ P → (w3.setCell ⟨P, 3, none⟩ (.slice ao9 X.1.len cap9)).heap[b]? = w3.heap[b]? := fun b q => Below.heap_setCell w3 ⟨P, 3, none⟩ _ b q
          have HB34 := Lib.hid hb34
          have hPw : w.heap.size ≤ P := Nat.le_trans BL1.out.size hPle
          have BL4 := Lib.hid (BL2.out.trans ((BLY.out.mono BL2.out.size).setCell (p := ⟨P, 3, none⟩) hPw (.slice ao9 X.1.len cap9)))
          clear hb34
          go_upto_region 24 with fail
          generalize w3.setCell ⟨P, 3, none⟩ (.slice ao9 X.1.len cap9) = w4 at PB4 s34 HB34 BL4 ⊢
          have hsY := BLY.out.size
          have OFK : Hid (OwnF w4 w.heap.size (fun b => Kr b ∨ (w1.heap.size ≤ b ∧ b < w4.heap.size ∧ b ≠ P)) u9 f xs) := by
            refine (OF2.out.frame (w' := w4) (by omega) (fun b hb q => ?_)).more (fun b q => .inl q) ?_ ?_
            · have hbP : b < w1.heap.size := q.elim (fun q => HK1.out b q) (fun q => HO1.out b q)
              rw [HB34.out b (by omega), BLY.out.block b hb]
            · rintro g hg (q | q)
              · exact OF2.out.ne g hg q
              · have := HO1.out g hg; omega
            · rintro b (q | q)
              · have := HK1.out b q; omega
              · exact q.2.1
          have ATK : Hid (AtsV w4 (fun b => Kr b ∨ (w1.heap.size ≤ b ∧ b < w4.heap.size ∧ b ≠ P)) (.slice ao7 t.ats.length cap7) t.ats) := ATX.out.frame (fun b q => ⟨.inr ⟨q.1, by have := q.2.1; omega, q.2.2⟩, by rw [HB34.out b q.2.2, BLY.out.block b q.2.1]⟩)
          have FOK : FoV w4 (fun b => Kr b ∨ (w1.heap.size ≤ b ∧ b < w4.heap.size ∧ b ≠ P)) (.slice ao9 X.1.len cap9) X.1 := FOY.out.frame (fun b q => ⟨.inr ⟨by have := q.1; omega, by have := q.2; omega, by have := q.1; omega⟩, HB34.out b (by have := q.1; omega)⟩)
          obtain ⟨ao9', cap9', xs9, hq1, hq2, hq3, hq4⟩ := FOK
          injection hq1 with hq5 hq6 hq7
          subst hq5
          subst hq7
          clear hq6 p3 g3
          have HQ2 := Lib.hid hq2
          have HQ3 := Lib.hid hq3
          clear hq2 hq3 HB34 PB3 OF2 BL2 ATX FOY PBX s34
          have q0 : w4.cell? ⟨P, 0, none⟩ = some (.string (st t.name)) := Blk.cell PB4.out 0
          have q1 : w4.cell? ⟨P, 1, none⟩ = some (.slice ao7 t.ats.length cap7) := Blk.cell PB4.out 1
          have q2 : w4.cell? ⟨P, 2, none⟩ = some (.string ⟨#[]⟩) := Blk.cell PB4.out 2
          have q3 : w4.cell? ⟨P, 3, none⟩ = some (.slice ao9 X.1.len cap9) := Blk.cell PB4.out 3
          have hfl := Mk.Fo.len_bulk f
          have hsz4 := BL4.out.size
          have ow10 := own_ap' OFK.out.own ((Ap.refl (fun _ => False) w4).alloc (.cells #[.string (st t.name), .slice ao7 t.ats.length cap7, .string ⟨#[]⟩, .slice ao9 X.1.len cap9] 52)) (fun _ _ q => q)
          have hal2 := (Below.refl w4.heap.size w4).alloc (Nat.le_refl _) (.cells #[.string (st t.name), .slice ao7 t.ats.length cap7, .string ⟨#[]⟩, .slice ao9 X.1.len cap9] 52)
          go_wp2_with (at_builtin; refine wpList_append_fresh rfl _ _ 22 rfl w.heap.size 52 i0 (.agg #[.string ⟨#[]⟩, .slice none 0 0, .string ⟨#[]⟩, .slice none 0 0]) 4 80 Tryz.underlying22 hi hz0 hz1 hz2 rfl (by decide) _ _ _ rfl ow10 ⟨w4.heap.size, 0, none⟩ 1 1 [.string (st t.name), .slice ao7 t.ats.length cap7, .string ⟨#[]⟩, .slice ao9 X.1.len cap9] rfl rfl (cells_new _ _ _) (by intro u hu; simp at hu; rcases hu with rfl | rfl | rfl | rfl <;> rfl) (by decide) (by unfold maxLen; omega) (by omega) (by simp; omega) ?_)
          intro v' w5 hown' hgrow hfresh
          have hfr2 : v'.ownBlock = u9.ownBlock ∨ v'.ownBlock = some (w4.alloc (.cells #[.string (st t.name), .slice ao7 t.ats.length cap7, .string ⟨#[]⟩, .slice ao9 X.1.len cap9] 52)).heap.size := hfresh.imp id (fun e => by rw [e]; simp)
          have OFP := OFK.out.pushed (t := []) ATK.out (ao := ao9) (cap := cap9) (zs := xs9) (k := X.1) HQ2.out hq4 HQ3.out HMB.out hal2 hown' hgrow hfr2
          rw [Mk.Fo.snoc_app _ _ _ _ _ (fun q => HNE.out q.1)] at OFP
          have OFP := Lib.hid OFP
          have HKR4 : Hid (∀ b, (Kr b ∨ (w1.heap.size ≤ b ∧ b < w4.heap.size ∧ b ≠ P)) → w.heap.size ≤ b) := by
            rintro b (q | q)
            · exact HKR.out b q
            · have := BL1.out.size; omega
          have BL5 := Lib.hid (BL4.out.trans ((hal2.mono BL4.out.size).grown hgrow (by have := hal2.size; omega) (fun q hq => (OFK.out.own.lt q hq).1)))
          clear hown' hgrow hfresh hfr2 ow10 hal2 OFK ATK HQ2 HQ3 PB4 q0 q1 q2 q3 HMB hq4 BL4 BL1 HKR
          by_cases hlf : X.2.2 < op.length
          · have hli : (X.2.2 : Int) < op.length := by omega
            have HR : Hid (Mk.boR (L.drop k) op .nil = (f.app (.node t.name t.ats [] X.1 .nil), X.2)) := by show _ = _; rw [HC5.out, if_pos hlf]
            clear HC5 hlf
            as_aux_lemma =>
            go_wp2_with fail
            go_ret3
            refine ⟨v', jj, by (rw [HR.out]) <;> rfl, ?_, by rw [HR.out, HX9.out], by omega, hl9, BL5.out⟩
            rw [HR.out]
            exact OFP.out.foV (fun b q => ⟨HKR4.out b q, OFP.out.le b q⟩) (fun g q => OFP.out.own.lt g q)
          · have hli : ¬ (X.2.2 : Int) < op.length := by omega
            have HR : Hid (Mk.boR (L.drop k) op .nil = Mk.boR (L.drop jj) op (f.app (.node t.name t.ats [] X.1 .nil))) := by show _ = _; rw [HC5.out, if_neg hlf, HX9.out]
            have hb2 := HXT.out jj HX9.out
            clear HC5 hlf
            as_aux_lemma =>
            go_wp2_with fail
            go_roundw
            case rel => exact ⟨jj, _, _, _, by omega, hl9, rfl, HR, hb2, HKR4, OFP, BL5⟩
            case measure => simp [intOf]; omega
        · as_aux_lemma =>
          have HR : Hid (Mk.boR (L.drop k) op .nil = match Mk.above t.name (fun _ => false) op with | none => Mk.boR (L.drop (j + 1)) op f | some i => (f, L.drop (j + 1), i)) := by show _ = _; rw [HJ.out, HCONS.out, if_neg (by rw [hkd]; decide), if_pos hkd]; cases Mk.above t.name (fun _ => false) op <;> rfl
          rw [hkd] at d0
          have hb2 : f.bulk + Mk.Bld.tokB (L.drop (j + 1)) ≤ 549755813000 := by omega
          have HSO : Hid (∀ m (hm : m < op.length), ∃ g o, aop = some ⟨g, o, none⟩ ∧ g < w.heap.size ∧ w.cell? ⟨g, o + m, none⟩ = some (.string (st op[m]))) := fun m hm => by
            rcases HSA.out with h | ⟨g, o, h1, h2, h3⟩
            · rw [h] at hm; simp at hm
            · exact ⟨g, o, h1, HK.out g h2, h3 m hm⟩
          clear hkd hk1 hk2 hk3 HTK HCONS HJ IH HSA HV HVO
          go_upto_block 2 with fail
          go_cut [11] (fun iv wx => iv = optV (Mk.above t.name (fun _ => false) op) ∧ Hid (Below w1.heap.size w1 wx))
          case first =>
            as_aux_lemma =>
            go_wp2_with fail
            go_loopw [11] (fun iv wx => ∃ m : Nat, m ≤ op.length ∧ iv = .int .i64 ((m : Int) - 1) ∧ Hid (Mk.above t.name (fun _ => false) op = Mk.above t.name (fun _ => false) (op.take m)) ∧ Hid (Below w1.heap.size w1 wx)) (fun iv _ => (intOf iv + 1).toNat)
            case atStart => exact ⟨op.length, Nat.le_refl _, rfl, by show _ = _; rw [List.take_length], Below.refl _ _⟩
            case round =>
              obtain ⟨m, hm, rfl, HA, B2⟩ := hrel
              rw [← B2.out.cell (p := ⟨T, _, none⟩) hTl] at d1
              cases m with
              | zero =>
                have HE : Hid (Mk.above t.name (fun _ => false) op = none) := by show _ = _; rw [HA.out, Mk.above_nil]
                clear HA HSO
                go_wp2_with fail
                go_quiet (fail)
                go_wp2_with fail
                go_meet
                case rel => exact ⟨by rw [HE.out]; rfl, below_drewN B2.out _⟩
              | succ m =>
                have hml : m < op.length := hm
                have hat := Mk.above_take t.name (fun _ => false) op m hml
                rw [← HA.out] at hat
                obtain ⟨g2, o2, hao2, hg2, hc⟩ := HSO.out m hml
                subst hao2
                rw [← (BL1.out.trans (B2.out.mono BL1.out.size)).cell (p := ⟨g2, _, none⟩) hg2] at hc
                obtain ⟨e, he⟩ : ∃ e, op[m] = e := ⟨_, rfl⟩
                rw [he] at hat hc
                have hj1 : ((m + 1 : Nat) : Int) - 1 = (m : Int) := by omega
                rw [hj1]
                have hjl2 : (m : Int) < op.length := by omega
                have hj0 : (0 : Int) ≤ m := by omega
                have HAK := Lib.hid hat
                clear hat HA he hj1 hm HSO
                rcases name_cases e t.name with ⟨h, q⟩ | ⟨h, q⟩
                · have HE : Hid (Mk.above t.name (fun _ => false) op = some m) := by show _ = _; rw [HAK.out, if_pos h]
                  have q2 : (e != t.name) = false := by rw [bne, q]; rfl
                  clear h HAK
                  go_wp2_with fail
                  go_quiet (fail)
                  go_wp2_with fail
                  go_meet
                  case rel => exact ⟨by rw [HE.out]; rfl, below_drewN B2.out _⟩
                · have HR2 : Hid (Mk.above t.name (fun _ => false) op = Mk.above t.name (fun _ => false) (op.take m)) := by show _ = _; rw [HAK.out, if_neg h, if_neg (by decide)]
                  have q2 : (e != t.name) = true := by rw [bne, q]; rfl
                  clear h HAK
                  go_wp2_with fail
                  go_quiet (fail)
                  go_wp2_with fail
                  go_roundw
                  case rel => exact ⟨m, by omega, by go_num, HR2, below_drewN B2.out _⟩
                  case measure => first | (simp [intOf]; done) | (simp [intOf]; omega)
          case rest =>
          as_aux_lemma =>
          obtain ⟨rfl, B2⟩ := hcut
          obtain ⟨w2, hw2⟩ : ∃ x, x = wc := ⟨_, rfl⟩
          subst hw2
          have BL2 := Lib.hid (BL1.out.trans (B2.out.mono BL1.out.size))
          have OF2 := Lib.hid (OF1.out.frame B2.out.size (fun b hb _ => B2.out.block b hb))
          clear B2 BL1 OF1 HSO
          cases ha : Mk.above t.name (fun _ => false) op with
          | none =>
            rw [ha] at HR
            simp only at HR
            clear ha
            unfold optV
            go_wp2_with fail
            go_roundw
            case rel => exact ⟨j + 1, f, xs, Kr, by omega, hlt, by go_num, HR, hb2, HKR, OF2, BL2⟩
            case measure => simp [intOf]; omega
          | some i =>
            rw [ha] at HR
            simp only at HR
            clear ha
            unfold optV
            have hi0 : (0 : Int) ≤ i := by omega
            go_wp2_with fail
            go_ret3
            refine ⟨u9, j + 1, by rw [HR.out]; rfl, ?_, by rw [HR.out], by omega, hlt, BL2.out⟩
            rw [HR.out]
            exact OF2.out.foV (fun b q => ⟨HKR.out b q, OF2.out.le b q⟩) (fun g q => OF2.out.own.lt g q)
      · have hje : j = L.length := by omega
        have HE : Hid (Mk.boR (L.drop k) op .nil = (f, [], op.length)) := by show _ = _; rw [HJ.out, List.drop_of_length_le (by omega), Mk.boR_nil]
        have hji : ¬ (j : Int) < L.length := by omega
        have HDN : Hid (L.drop j = []) := List.drop_of_length_le (by omega)
        clear hje
        as_aux_lemma =>
        clear HJ HAT HSA HV HVO IH
        go_wp2_with fail
        go_ret3
        refine ⟨u9, j, by rw [HE.out]; rfl, ?_, by rw [HE.out, HDN.out], hkj, hj, BL.out⟩
        rw [HE.out]
        exact OF.out.foV (fun b q => ⟨HKR.out b q, OF.out.le b q⟩) (fun g q => OF.out.own.lt g q)
end Go.Proofs.YteidgdpaolieaaaGreatDoor

/- Plain laws of a sign, as the reference tells it. No program in sight. -/
namespace Mk
/-- a sign at the beginning of a text, as the reference tells it. -/
def signR (l : Bs) : Bs × Nat × Bool := if (sign l).2.1 = 0 then ([], 0, false) else sign l
theorem signR_named (l : Bs) (c : UInt8) (n : Nat) (hn : n ≠ 0) (h : named l = some (c, n)) : signR l = ([c], n, true) := by
  have e : sign l = ([c], n, true) := by unfold sign; rw [h]
  unfold signR
  rw [e, if_neg hn]
theorem signR_none (l : Bs) (h : named l = none) (h2 : numbered l = none) : signR l = ([], 0, false) := by
  have e : sign l = ([38], 0, false) := by unfold sign; rw [h, h2]
  unfold signR
  rw [e, if_pos rfl]
theorem signR_num (l : Bs) (p n : Nat) (hn : n ≠ 0) (h : named l = none) (h2 : numbered l = some (p, n)) : signR l = if scalar p = true then (utf8 p, n, true) else ([239, 191, 189], n, false) := by
  have e : sign l = if scalar p = true then (utf8 p, n, true) else ([239, 191, 189], n, false) := by unfold sign; rw [h, h2]
  unfold signR
  rw [e]
  by_cases hs : scalar p = true
  · rw [if_pos hs, if_neg hn]
  · rw [if_neg hs, if_neg hn]
theorem numbered_16 (l : Bs) (h : Mg.pre [38, 35, 120] l = true) : numbered l = numAt 16 6 3 l := by unfold numbered; rw [if_pos h]
theorem numbered_10 (l : Bs) (h : Mg.pre [38, 35, 120] l = false) (h2 : Mg.pre [38, 35] l = true) : numbered l = numAt 10 7 2 l := by unfold numbered; rw [if_neg (by rw [h]; decide), if_pos h2]
theorem pre_less (l : Bs) (h : Mg.pre [38, 35] l = false) : Mg.pre [38, 35, 120] l = false := by
  match l, h with
  | [], _ => rfl
  | [a], h => simp [Mg.pre] at h ⊢
  | a :: b :: t, h => 
    simp [Mg.pre] at h ⊢
    intro h1 h2
    exact absurd h2 (h h1)
theorem numbered_no (l : Bs) (h : Mg.pre [38, 35] l = false) : numbered l = none := by unfold numbered; rw [if_neg (by rw [pre_less l h]; decide), if_neg (by rw [h]; decide)]
/-- what digits tell, as a loop goes over them. -/
theorem numAt_run (b most ahead j : Nat) (l : Bs) (h : Runs (isDig b) (l.drop ahead) j) (he : j = (l.drop ahead).length ∨ (∃ q : j < (l.drop ahead).length, isDig b (l.drop ahead)[j] = false) ∨ most < j) :
    numAt b most ahead l = if j = 0 ∨ most < j then none else if Mg.isAt 59 ((l.drop ahead).drop j) = true then some (value b ((l.drop ahead).take j), ahead + j + 1) else none := by
  unfold numAt
  simp only
  generalize l.drop ahead = r at h he ⊢
  by_cases hm : most < j
  · have hle : j ≤ (r.takeWhile (isDig b)).length := by
      have e : r = r.take j ++ r.drop j := (List.take_append_drop j r).symm
      rw [e, List.takeWhile_append_of_pos h.2, List.length_append, List.length_take, Nat.min_eq_left h.1]
      exact Nat.le_add_right _ _
    rw [if_pos (.inr (by omega)), if_pos (.inr hm)]
  · obtain ⟨e1, e2⟩ := runs_ends (isDig b) r j h (by rcases he with q | q | q; exact .inl q; exact .inr q; exact absurd q hm)
    rw [e1, List.length_take, Nat.min_eq_left h.1]
theorem value_one (b : Nat) (l : Bs) (c : UInt8) : value b (l ++ [c]) = value b l * b + dig36 c.toNat := by simp [value]
theorem value_take (b : Nat) (l : Bs) (j : Nat) (h : j < l.length) : value b (l.take (j + 1)) = value b (l.take j) * b + dig36 l[j].toNat := by
  rw [List.take_succ_eq_append_getElem h, value_one]
end Mk
