/- Contracts of the program's sign and Taken: a text with signs for what tells them. Condition: a text of at most 1048576 bytes. -/
import Derived.Test.YteidgdpaolieaaaGreatDoorYMkNum
import Derived.Test.YteidgdpaolieaaaGreatDoorYMkBuf
import Derived.Test.YteidgdpaolieaaaGreatDoorProg
import Derived.Test.YteidgdpaolieaaaGreatDoorYUrlPlain
import Derived.Test.YteidgdpaolieaaaGreatDoorYShelf
import Derived.Test.YteidgdpaolieaaaGreatDoorYKit
import Derived.WalkKit
import Derived.WalkSpells
import Derived.WalkLawsBesides
import Derived.Lib.Hide
import Derived.Deep.QuietTactic
import Derived.BigQuiet
set_option linter.unusedVariables false
set_option linter.unusedSimpArgs false
namespace Go.Proofs.YteidgdpaolieaaaGreatDoor
open Go.RowKit

def signV (x : List UInt8 × Nat × Bool) : Value:=.tuple #[.string (st x.1),.int .i64 x.2.1,.bool x.2.2]
theorem utf8_is (p : Nat) (h : Mk.scalar p = true) : Utf8.encode (p : Int) = st (Mk.utf8 p):=by
 have hs : (0 < p∧p≤1114111)∧(p < 55296 ∨ 57343 < p):=by
  rw [scalar_is] at h
  rw [Bool.and_eq_true,Bool.and_eq_true,Bool.or_eq_true] at h
  obtain ⟨⟨h1,h2⟩,h3⟩:=h
  exact ⟨⟨of_decide_eq_true h1,of_decide_eq_true h2⟩,h3.imp of_decide_eq_true of_decide_eq_true⟩
 have hv : Utf8.valid (p : Int) = true:=by
  unfold Utf8.valid
  rw [Bool.or_eq_true,Bool.and_eq_true,Bool.and_eq_true]
  rcases hs with ⟨⟨h1,h2⟩,h3 | h3⟩
  ·exact .inl ⟨decide_eq_true (by omega),decide_eq_true (by omega)⟩
  ·exact .inr ⟨decide_eq_true (by omega),decide_eq_true (by omega)⟩
 unfold Utf8.encode Mk.utf8
 simp only [hv,if_true,Int.toNat_natCast]
 split
 ·rfl
 split
 ·rfl
 split
 ·rfl
 ·rfl

set_option maxHeartbeats 2000000 in
set_option maxRecDepth 100000 in
theorem esc_sign (s : ByteArray) (w : World) (hs : s.size≤2097152) (hg : Gl w) :
  Calls Tryz.prog 159 #[.string s] w fun e w'=>e = .returned (signV (Mk.sign s.data.toList))∧Below w.heap.size w w':=by
 have hna:=fun W=>esc_named s W
 have hnu:=fun W hG=>esc_numbered s W hs hG
 have hsg : Mk.sign s.data.toList = (match Mk.named s.data.toList with | some (c,n)=>([c],n,true) | none=>match Mk.numbered s.data.toList with | none=>([38],0,false) | some (p,n)=>if Mk.scalar p then (Mk.utf8 p,n,true) else ([239,191,189],n,false)):=rfl
 obtain ⟨a,ha⟩ : ∃ a,Mk.named s.data.toList = a:=⟨_,rfl⟩
 obtain ⟨b,hb⟩ : ∃ b,Mk.numbered s.data.toList = b:=⟨_,rfl⟩
 rw [ha] at hna hsg
 rw [hb] at hnu hsg
 have HA:=Lib.hid hna
 have HU:=Lib.hid hnu
 have hgt : ∀ c n,a = some (c,n)→0 < n:=by
  intro c n e
  rw [← ha] at e
  unfold Mk.named at e
  split at e
  ·injection e with e;injection e with e1 e2;omega
  split at e
  ·injection e with e;injection e with e1 e2;omega
  split at e
  ·injection e with e;injection e with e1 e2;omega
  split at e
  ·injection e with e;injection e with e1 e2;omega
  split at e
  ·injection e with e;injection e with e1 e2;omega
  ·cases e
 have hgn : ∀ p n,b = some (p,n)→0 < n:=by
  intro p n e
  have hat : ∀ x y z,Mk.numAt x y z s.data.toList = some (p,n)→0 < n:=by
   intro x y z h
   unfold Mk.numAt at h
   simp only at h
   split at h
   ·cases h
   split at h
   ·injection h with h;injection h with h1 h2;omega
   ·cases h
  rw [← hb] at e
  unfold Mk.numbered at e
  split at e
  ·exact hat _ _ _ e
  split at e
  ·exact hat _ _ _ e
  ·cases e
 clear hna hnu ha hb
 have HG:=Lib.hid hg
 clear hg
 cases a with
 | some x =>
  obtain ⟨c,n⟩:=x
  have h0 : (0 : Int) < n:=by have:=hgt c n rfl;omega
  have HS:=Lib.hid hsg
  clear hsg hgt hgn HU
  go_enter Tryz.func159,Tryz.ntmps159
  go_wp2_with fail
  refine (HA.out _).mono ?_
  rintro e w1 ⟨rfl,hb1⟩
  unfold namedV
  go_wp2_with fail
  go_ret3
  exact ⟨by rw [HS.out];rfl,hb1⟩
 | none =>
  clear hgt
  cases b with
  | none =>
   have HS:=Lib.hid hsg
   clear hsg hgn
   go_enter Tryz.func159,Tryz.ntmps159
   go_wp2_with fail
   refine (HA.out _).mono ?_
   rintro e w1 ⟨rfl,hb1⟩
   unfold namedV
   go_wp2_with fail
   refine (HU.out _ (HG.out.below hb1 HG.out.lt)).mono ?_
   rintro e w2 ⟨rfl,hb2⟩
   unfold numV
   go_wp2_with fail
   go_ret3
   exact ⟨by rw [HS.out];rfl,hb1.trans (hb2.mono hb1.size)⟩
  | some x =>
   obtain ⟨p,n⟩:=x
   have h0 : (0 : Int) < n:=by have:=hgn p n rfl;omega
   have h1 : ((n : Int) == 0) = false:=by rw [beq_eq_false_iff_ne];omega
   clear hgn
   cases hsc : Mk.scalar p with
   | true =>
    have HE:=Lib.hid (utf8_is p hsc)
    have hw : IntKind.i32.wrap (p : Int) = p:=by
     have h:=hsc
     rw [scalar_is,Bool.and_eq_true,Bool.and_eq_true] at h
     have:=of_decide_eq_true h.1.2
     rw [IntKind.wrap_i32];omega
    simp only [hsc,if_true] at hsg
    have hq:=esc_scalar p
    rw [hsc] at hq
    have HQ:=Lib.hid hq
    have HS:=Lib.hid hsg
    clear hsg hsc hq
    go_enter Tryz.func159,Tryz.ntmps159
    go_wp2_with fail
    refine (HA.out _).mono ?_
    rintro e w1 ⟨rfl,hb1⟩
    unfold namedV
    go_wp2_with fail
    refine (HU.out _ (HG.out.below hb1 HG.out.lt)).mono ?_
    rintro e w2 ⟨rfl,hb2⟩
    unfold numV
    go_wp2_with fail
    refine (HQ.out _).mono ?_
    rintro e w3 ⟨rfl,rfl⟩
    go_wp2_with fail
    rw [HE.out]
    go_ret3
    exact ⟨by rw [HS.out];rfl,hb1.trans (hb2.mono hb1.size)⟩
   | false =>
    simp only [hsc,if_false,Bool.false_eq_true] at hsg
    have hq:=esc_scalar p
    rw [hsc] at hq
    have HQ:=Lib.hid hq
    have HS:=Lib.hid hsg
    clear hsg hsc hq
    go_enter Tryz.func159,Tryz.ntmps159
    go_wp2_with fail
    refine (HA.out _).mono ?_
    rintro e w1 ⟨rfl,hb1⟩
    unfold namedV
    go_wp2_with fail
    refine (HU.out _ (HG.out.below hb1 HG.out.lt)).mono ?_
    rintro e w2 ⟨rfl,hb2⟩
    unfold numV
    go_wp2_with fail
    refine (HQ.out _).mono ?_
    rintro e w3 ⟨rfl,rfl⟩
    go_wp2_with fail
    go_ret3
    exact ⟨by rw [HS.out];rfl,hb1.trans (hb2.mono hb1.size)⟩
end Go.Proofs.YteidgdpaolieaaaGreatDoor

/- Contracts of the small functions of links, and of the reference's small words: each returns just what its plain Lean function says; the world is as it was. No condition but the strings' own sizes. -/
namespace Go.Proofs.YteidgdpaolieaaaGreatDoor
open Go.RowKit


set_option maxHeartbeats 400000 in
theorem url_long (s : ByteArray) (w : World) :
    Calls Tryz.prog 79 #[.string s] w fun e w' => e = .returned (.bool (decide (3000 < s.size))) ∧ w = w' := by
  go_enter Tryz.func79, Tryz.ntmps79
  go_wp2
  go_ret
  refine ⟨ret_bool ?_, rfl⟩
  simp; omega

set_option maxHeartbeats 400000 in
theorem ref_between (n a b : Int) (w : World) :
    Calls Tryz.prog 110 #[.int .i64 n, .int .i64 a, .int .i64 b] w fun e w' => e = .returned (.bool (decide (a ≤ n ∧ n ≤ b))) ∧ w = w' := by
  go_enter Tryz.func110, Tryz.ntmps110
  go_wp2
  all_goals (go_ret; refine ⟨ret_bool ?_, rfl⟩; simp [*]; try omega)

set_option maxHeartbeats 400000 in
theorem url_lower (c : UInt8) (w : World) :
    Calls Tryz.prog 101 #[.int .u8 c.toNat] w fun e w' => e = .returned (.int .u8 (Mg.low c).toNat) ∧ w = w' := by
  have hl := Mg.low_nat c
  go_enter Tryz.func101, Tryz.ntmps101
  go_wp2
  all_goals (go_ret; refine ⟨ret_int ?_, rfl⟩; split at hl <;> omega)

set_option maxHeartbeats 400000 in
theorem ref_isLetter (c : UInt8) (w : World) :
    Calls Tryz.prog 92 #[.int .u8 c.toNat] w fun e w' => e = .returned (.bool (Mg.isLet c)) ∧ w = w' := by
  have hb : (c.toNat : Int) ≤ 255 := by have := c.toNat_lt; omega
  go_enter Tryz.func92, Tryz.ntmps92
  go_wp2_with (go_at_call 110; refine (ref_between _ _ _ _).mono ?_; rintro e w' ⟨rfl, rfl⟩)
  all_goals (go_ret; refine ⟨ret_bool ?_, rfl⟩; rw [Bool.eq_iff_iff, Mg.isLet_iff]; simp; try omega)

set_option maxHeartbeats 400000 in
theorem ref_schemeOf (s : ByteArray) (w : World) (hs : s.size ≤ 67108864) :
    Calls Tryz.prog 72 #[.string s] w fun e w' => e = .returned (.int .i64 (Mg.schOf s.data.toList)) ∧ w = w' := by
  go_enter Tryz.func72, Tryz.ntmps72
  go_wp2
  go_loop [3] (fun i => ∃ k : Nat, k ≤ s.size ∧ i = .int .i64 k ∧ Hid (Mg.schOf s.data.toList = Mg.schFrom k (s.data.toList.drop k))) (fun i => s.size - (intOf i).toNat)
  case atStart => exact ⟨0, Nat.zero_le _, rfl, rfl⟩
  case round =>
    obtain ⟨k, hk, rfl, hr⟩ := hrel
    by_cases hlt : k < s.size
    · have H : Hid (Mg.schOf s.data.toList = Mg.schFrom k (s[k] :: s.data.toList.drop (k + 1))) := by rw [← bs_drop s k hlt]; exact hr
      clear hr
      have hb : (s[k].toNat : Int) ≤ 255 := by have := s[k].toNat_lt; omega
      go_wp2_with (first | (go_at_call 92; refine (ref_isLetter _ _).mono ?_; rintro e w' ⟨rfl, rfl⟩) | (go_at_call 110; refine (ref_between _ _ _ _).mono ?_; rintro e w' ⟨rfl, rfl⟩))
      all_goals (try simp only [beq_iff_eq, beq_eq_false_iff_ne, ne_eq] at *)
      all_goals first
        | (go_ret; exact ⟨ret_int (by have := Mg.sch_stop H.out (by assumption); omega), rfl⟩)
        | (go_ret; exact ⟨ret_int (by have := Mg.sch_off H.out (by assumption) (by assumption) (by omega); omega), rfl⟩)
        | (go_round
           case rel => exact ⟨k + 1, by omega, by go_num, Mg.sch_on H.out (by assumption) (by first | exact .inl (by assumption) | exact .inr (by omega))⟩
           case measure => simp [intOf]; omega)
    · go_wp2
      go_ret
      exact ⟨ret_int (by rw [hr.out, List.drop_of_length_le (by simp; omega)]; rfl), rfl⟩


set_option maxHeartbeats 400000 in
theorem ref_startsAt (s p : ByteArray) (k : Nat) (w : World) (hk : k ≤ s.size) (hs : s.size ≤ 9223372036854775807) (hp : p.size ≤ 9223372036854775807) :
    Calls Tryz.prog 93 #[.string s, .int .i64 k, .string p] w fun e w' => e = .returned (.bool (Mg.pre p.data.toList (s.data.toList.drop k))) ∧ w = w' := by
  go_enter Tryz.func93, Tryz.ntmps93
  go_wp2
  · have h : (p.size : Int) ≤ (s.size : Int) - (k : Int) := by assumption
    go_ret
    refine ⟨ret_bool ?_, rfl⟩
    rw [extract_bs, Lib.toList_data, Mg.pre, bs_len]
    simp
  · have h : (s.size : Int) - (k : Int) < (p.size : Int) := by assumption
    go_ret
    refine ⟨ret_bool ?_, rfl⟩
    exact (Mg.pre_short _ _ (by simp; omega)).symm

theorem not_mem_snoc {p : ByteArray} {m : Nat} (hm : m < p.size) {c : UInt8} (h : c ∉ p.data.toList.take m) (hc : ((c.toNat : Int) == (p[m].toNat : Int)) = false) : c ∉ p.data.toList.take (m + 1) := by
  rw [List.take_succ_eq_append_getElem (by simpa using hm)]
  simp only [List.mem_append, List.mem_singleton, not_or]
  exact ⟨h, byte_ne hc⟩

def upToL (stops l : List UInt8) : Nat := (l.takeWhile (fun c => !stops.contains c)).length
theorem upToL_hit (stops l : List UInt8) (c : UInt8) (h : c ∈ stops) : upToL stops (c :: l) = 0 := by simp [upToL, h]
theorem upToL_miss (stops l : List UInt8) (c : UInt8) (h : c ∉ stops) : upToL stops (c :: l) = upToL stops l + 1 := by simp [upToL, h]

set_option maxHeartbeats 400000 in
theorem ref_upTo (s p : ByteArray) (k : Nat) (w : World) (hk : k ≤ s.size) (hs : s.size ≤ 9223372036854775806) (hp : p.size ≤ 9223372036854775806) :
    Calls Tryz.prog 137 #[.string s, .int .i64 k, .string p] w fun e w' => e = .returned (.int .i64 ((k + upToL p.data.toList (s.data.toList.drop k) : Nat) : Int)) ∧ ∃ n, w' = w.drewN n := by
  go_enter Tryz.func137, Tryz.ntmps137
  go_wp2
  go_loopw [1, 7] (fun i _ wr => ∃ j : Nat, j ≤ s.size ∧ i = .int .i64 j ∧ Hid (k + upToL p.data.toList (s.data.toList.drop k) = j + upToL p.data.toList (s.data.toList.drop j)) ∧ ∃ n, wr = w.drewN n) (fun i _ _ => s.size - (intOf i).toNat)
  case atStart => exact ⟨k, hk, rfl, rfl, 0, rfl⟩
  case round =>
    obtain ⟨j, hj, rfl, hr, n, rfl⟩ := hrel
    by_cases hlt : j < s.size
    · go_wp2
      go_loopw [7] (fun i wr => ∃ m : Nat, m ≤ p.size ∧ i = .int .i64 m ∧ Hid (s[j] ∉ p.data.toList.take m) ∧ ∃ n, wr = w.drewN n) (fun i _ => p.size - (intOf i).toNat)
      case atStart => exact ⟨0, Nat.zero_le _, rfl, by show _ ∉ _; simp, n, rfl⟩
      case round =>
        obtain ⟨m, hm, rfl, hno, n2, rfl⟩ := hrel
        by_cases hlm : m < p.size
        · go_wp2
          go_quiet (fail)
          go_wp2
          · have h : ((s[j].toNat : Int) == (p[m].toNat : Int)) = true := by assumption
            go_ret
            refine ⟨ret_int ?_, n2 + nq, by first | rfl | exact World.drewN_drewN _ _ _⟩
            have h2 : s[j] ∈ p.data.toList := by rw [byte_eq h]; exact byte_mem p m hlm
            rw [hr.out, bs_drop s j hlt, upToL_hit _ _ _ h2]; simp
          · have h : ((s[j].toNat : Int) == (p[m].toNat : Int)) = false := by assumption
            go_roundw
            case rel => exact ⟨m + 1, by omega, by go_num, not_mem_snoc hlm hno.out h, n2 + nq, by first | rfl | exact World.drewN_drewN _ _ _⟩
            case measure => simp [intOf]; omega
        · go_wp2
          go_roundw
          case rel =>
            have e : s[j] ∉ p.data.toList := by have := hno.out; rwa [List.take_of_length_le (by simp; omega)] at this
            exact ⟨j + 1, by omega, by go_num, by show _ = _; rw [hr.out, bs_drop s j hlt, upToL_miss _ _ _ e]; omega, _, rfl⟩
          case measure => simp [intOf]; omega
    · go_wp2
      go_ret
      refine ⟨ret_int (by rw [hr.out, List.drop_of_length_le (by simp; omega)]; simp [upToL]), n, rfl⟩

theorem Tryz.infoB : (Tryz.prog.info? 5).map (fun i => (i.zero, i.size, i.bytes)) = some (some (.int .u8 0), 1, 1) := by kernel_rfl

set_option maxHeartbeats 400000 in
theorem ref_FoldOf (s : ByteArray) (w : World) (hs : s.size ≤ 67108864) :
    Calls Tryz.prog 74 #[.string s] w fun e w' => e = .returned (.string ⟨(Mg.fold s.data.toList).toArray⟩) ∧ Below w.heap.size w w' := by
  obtain ⟨i0, hi, hz0, hz1, hz2⟩ := info_parts Tryz.infoB
  go_enter Tryz.func74, Tryz.ntmps74
  go_wp2
  have hcv := fun (W : World) (v : Value) (n : Nat) (l : List UInt8) => run_convert_own (P := Tryz.prog) W 120 9 5 Tryz.underlying120 Tryz.underlying5 Tryz.underlying9 (base := w.heap.size) (n := n) (v := v) l
  go_loopw [3, 4] (fun v i wr => ∃ k : Nat, k ≤ s.size ∧ i = .int .i64 k ∧ wr.ownsRow w.heap.size 5 1 v k (bv (Mg.fold (s.data.toList.take k))) ∧ Below w.heap.size w wr) (fun _ i _ => s.size - (intOf i).toNat)
  case atStart => exact ⟨0, Nat.zero_le _, rfl, World.ownsRow_nil _ _ _ _, Below.refl _ _⟩
  case round =>
    obtain ⟨k, hk, rfl, hown, hbl⟩ := hrel
    by_cases hlt : k < s.size
    · have hb : (s[k].toNat : Int) ≤ 255 := by have := s[k].toNat_lt; omega
      have hsz := hbl.size
      have hl := Mg.low_nat s[k]
      have hf : Mg.fold (s.data.toList.take (k + 1)) = Mg.fold (s.data.toList.take k) ++ [Mg.low s[k]] := by rw [bs_take s k hlt]; simp [Mg.fold]
      by_cases hup : 65 ≤ (s[k].toNat : Int) ∧ (s[k].toNat : Int) ≤ 90
      · have hv : ((Mg.low s[k]).toNat : Int) = (s[k].toNat : Int) + 32 := by rw [hl, if_pos (by omega)]; omega
        have HV := Lib.hid hv; have HF := Lib.hid hf
        clear hv hl hf hcv
        go_wp2_with (first | (go_at_call 110; refine (ref_between _ _ _ _).mono ?_; rintro e w' ⟨rfl, rfl⟩) | (at_builtin; refine wpList_append_own _ rfl _ _ 120 rfl w.heap.size 5 i0 (.int .u8 0) 1 1 Tryz.underlying120 hi hz0 hz1 hz2 rfl (by decide) _ _ _ rfl (hown.alloc _) ⟨wr.heap.size, 0, none⟩ 1 1 [.int .u8 ((s[k].toNat : Int) + 32)] rfl rfl (cell_one_new _ _ _) (one_cell _ rfl) (by unfold maxLen; omega) (by omega) (by simp; omega) ?_))
        intro v' w1 hown' hgrow _
        have hbl1 := below_grown (hbl.alloc hsz _) (hown.alloc _) hgrow (by simp; omega)
        rw [← HV.out, ← bv_snoc, ← HF.out] at hown'
        clear hown hgrow hbl
        go_wp2
        go_roundw
        case rel => exact ⟨k + 1, by omega, by go_num, hown', hbl1⟩
        case measure => simp [intOf]; omega
      · have hv : ((Mg.low s[k]).toNat : Int) = (s[k].toNat : Int) := by rw [hl, if_neg (by omega)]
        have HV := Lib.hid hv; have HF := Lib.hid hf
        clear hv hl hf hcv
        go_wp2_with (first | (go_at_call 110; refine (ref_between _ _ _ _).mono ?_; rintro e w' ⟨rfl, rfl⟩) | (at_builtin; refine wpList_append_own _ rfl _ _ 120 rfl w.heap.size 5 i0 (.int .u8 0) 1 1 Tryz.underlying120 hi hz0 hz1 hz2 rfl (by decide) _ _ _ rfl (hown.alloc _) ⟨wr.heap.size, 0, none⟩ 1 1 [.int .u8 (s[k].toNat : Int)] rfl rfl (cell_one_new _ _ _) (one_cell _ rfl) (by unfold maxLen; omega) (by omega) (by simp; omega) ?_))
        intro v' w1 hown' hgrow _
        have hbl1 := below_grown (hbl.alloc hsz _) (hown.alloc _) hgrow (by simp; omega)
        rw [← HV.out, ← bv_snoc, ← HF.out] at hown'
        clear hown hgrow hbl
        go_wp2
        go_roundw
        case rel => exact ⟨k + 1, by omega, by go_num, hown', hbl1⟩
        case measure => simp [intOf]; omega
    · rw [List.take_of_length_le (by simp; omega)] at hown
      have hc := hcv wr u3 k _ hown
      clear hcv
      go_wp2
      go_ret
      exact ⟨rfl, hbl⟩
end Go.Proofs.YteidgdpaolieaaaGreatDoor
