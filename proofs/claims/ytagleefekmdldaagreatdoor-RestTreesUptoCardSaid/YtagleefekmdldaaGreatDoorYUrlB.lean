/- Contracts of the program's scheme, cutter and Parts: each returns just what its plain Lean function says. Condition: texts of at most 67108864 bytes. -/
import Derived.Test.YtagleefekmdldaaGreatDoorYMkTake
import Derived.Test.YtagleefekmdldaaGreatDoorYIdxAny
set_option linter.unusedVariables false
set_option linter.unusedSimpArgs false
set_option maxHeartbeats 400000
namespace Go.Proofs.YtagleefekmdldaaGreatDoor
open Go.Proofs.Tryz Go.RowKit

theorem q5t (chars:List UInt8) (p:UInt8 → Bool) (hp:∀ c, chars.contains c=p c) (l:List UInt8) :
    (Lib.indexAny l chars = -1 ∧ l.findIdx p=l.length ∧ Mg.upto p l=l ∧ Mg.past p l=[]) ∨
    (l.findIdx p < l.length ∧ Lib.indexAny l chars=(l.findIdx p:Nat) ∧ Mg.upto p l=l.take (l.findIdx p) ∧ Mg.past p l=l.drop (l.findIdx p)) := by
  induction l with
  | nil => exact .inl ⟨rfl, rfl, rfl, rfl⟩
  | cons c t ih =>
    rw[List.findIdx_cons, Lib.indexAny, hp]
    by_cases hc:p c=true
    · right
      simp[hc, Mg.upto, Mg.past]
    · have hc':p c=false := by simpa using hc
      rcases ih with ⟨h1, h2, h3, h4⟩ | ⟨h1, h2, h3, h4⟩
      · left
        simp only [Mg.upto, Mg.past] at h3 h4 ⊢
        simp[hc', h1, h2, h3, h4]
      · right
        simp only [Mg.upto, Mg.past] at h3 h4 ⊢
        refine⟨by simp only [hc', cond_false, List.length_cons]; omega, ?_, by simp[hc', h3], by simp[hc', h4]⟩
        rw[h2]
        have:¬ ((t.findIdx p:Nat):Int) = -1 := by omega
        simp[hc', this]

theorem z8b (s:ByteArray) (w:World) (hs:s.size ≤ 67108864) (hi:Lib.indexAny s.data.toList [58, 47, 63, 35] ≤ 0) :
    Calls prog 109 #[.string s] w fun e w' => e=.returned (.int .i64 0) ∧ Below w.heap.size w w' := by
  go_enter func109, ntmps109
  go_wp2_with (go_at_call 136; refine(z2g _ _ _ (by decide) (by decide) hs (by decide)).mono ?_; rintro e w' ⟨rfl, hbl⟩)
  go_ret
  exact⟨rfl, hbl⟩

theorem j2s:∀ c, [58, 47, 63, 35].contains c=Mg.z1p c := fun c => Mg.z0h (fun c => [58, 47, 63, 35].contains c=Mg.z1p c) (by decide +kernel) c

theorem j6i (k:Nat) (c:UInt8):Mg.z9u k c=true↔((97 ≤ ((Mg.low c).toNat:Int) ∧ ((Mg.low c).toNat:Int) ≤ 122)∨0 < k ∧ ((48 ≤ ((Mg.low c).toNat:Int) ∧ ((Mg.low c).toNat:Int) ≤ 57)∨((Mg.low c).toNat:Int)=43∨((Mg.low c).toNat:Int)=45∨((Mg.low c).toNat:Int)=46)) := by
  have h1 := Mg.j5f c
  have h2 := Mg.q9a c
  have h3 := Mg.q1g (Mg.low c)
  have h4 := Mg.q4w (Mg.low c)
  have h5:((Mg.low c).toNat:Int) < 65∨90 < ((Mg.low c).toNat:Int) := Mg.z0h (fun c => ((Mg.low c).toNat:Int) < 65∨90 < ((Mg.low c).toNat:Int)) (by decide +kernel) c
  unfold Mg.z9u
  rw[Bool.or_eq_true, Bool.and_eq_true, decide_eq_true_eq, ← h1, ← h2, h3, h4]
  omega

theorem z9y (s:ByteArray) (w:World) (i:Nat) (hs:s.size ≤ 67108864) (hi:Lib.indexAny s.data.toList [58, 47, 63, 35]=(i:Nat)) (h0:0 < i) (hl:i < s.size) (hne:((s[i]'hl).toNat:Int) ≠ 58) :
    Calls prog 109 #[.string s] w fun e w' => e=.returned (.int .i64 0) ∧ Below w.heap.size w w' := by
  have hd:(((s[i]'hl).toNat:Int) != 58)=true := by simpa using hne
  have HI := Ld hi; clear hi
  go_enter func109, ntmps109
  go_wp2_with (go_at_call 136; refine(z2g _ _ _ (by decide) (by decide) hs (by decide)).mono ?_; rintro e w' ⟨rfl, hbl⟩; rw[show Lib.indexAny s.data.toList [58, 47, 63, 35]=(i:Nat) from HI.out])
  go_ret
  exact⟨rfl, hbl⟩

theorem q2h (s:ByteArray) (w:World) (i:Nat) (hs:s.size ≤ 67108864) (hi:Lib.indexAny s.data.toList [58, 47, 63, 35]=(i:Nat)) (h0:0 < i) (hl:i < s.size) (he:((s[i]'hl).toNat:Int)=58) (r:Nat) (hR:Hid (r=if Mg.z9r i 0 s.data.toList=true then i else 0)) :
    Calls prog 109 #[.string s] w fun e w' => e=.returned (.int .i64 r) ∧ Below w.heap.size w w' := by
  have hd:(((s[i]'hl).toNat:Int) != 58)=false := by simp[he]
  have HI := Ld hi; clear hi he
  go_enter func109, ntmps109
  go_wp2_with (go_at_call 136; refine(z2g _ _ _ (by decide) (by decide) hs (by decide)).mono ?_; rintro e w' ⟨rfl, hbl⟩; rw[show Lib.indexAny s.data.toList [58, 47, 63, 35]=(i:Nat) from HI.out])
  go_loop [4, 5, 17] (fun _ _ n => ∃ k:Nat, k ≤ i ∧ n=.int .i64 k ∧ Hid (Mg.z9r i 0 s.data.toList=Mg.z9r (i - k) k (s.data.toList.drop k))) (fun _ _ n => i - (intOf n).toNat)
  case atStart => exact⟨0, Nat.zero_le _, rfl, rfl⟩
  case round =>
    obtain⟨k, hk, rfl, hr⟩ := hrel
    by_cases hlt:k < i
    · have hks:k < s.size := by omega
      have hb:((Mg.low s[k]).toNat:Int) ≤ 255 := by have := (Mg.low s[k]).toNat_lt; omega
      have H:Hid (Mg.z9r i 0 s.data.toList=(Mg.z9u k s[k] && Mg.z9r (i - (k + 1)) (k + 1) (s.data.toList.drop (k + 1)))) := by
        have := hr.out
        rw[X6 s k hks, show i - k=(i - (k + 1)) + 1 from by omega] at this
        exact this
      have hsch := j6i k s[k]
      clear hr
      have hk0:decide (k=0)=decide (k=0) := rfl
      clear hk0
      by_cases hq:(97 ≤ ((Mg.low s[k]).toNat:Int) ∧ ((Mg.low s[k]).toNat:Int) ≤ 122)∨0 < k ∧ ((48 ≤ ((Mg.low s[k]).toNat:Int) ∧ ((Mg.low s[k]).toNat:Int) ≤ 57)∨((Mg.low s[k]).toNat:Int)=43∨((Mg.low s[k]).toNat:Int)=45∨((Mg.low s[k]).toNat:Int)=46)
      · have HN:Hid (Mg.z9r i 0 s.data.toList=Mg.z9r (i - (k + 1)) (k + 1) (s.data.toList.drop (k + 1))) := by
          show _=_
          rw[H.out, hsch.2 hq, Bool.true_and]
        clear hsch H
        go_wp2_with (go_at_call 108; refine(q21 _ _).mono ?_; rintro e w' ⟨rfl, rfl⟩)
        all_goals first
          | (go_round
             case rel => exact⟨k + 1, by omega, by go_num, HN⟩
             case measure => simp[intOf]; omega)
          | (exfalso; simp only [Bool.not_eq_true', Bool.not_eq_false', decide_eq_false_iff_not, decide_eq_true_eq, bne_iff_ne, beq_iff_eq, beq_eq_false_iff_ne, bne_eq_false_iff_eq, ne_eq] at *; omega)
      · have HN:Hid (r=0) := by
          show _=_
          have hf:Mg.z9u k s[k]=false := by
            cases h:Mg.z9u k s[k] with
            | false => rfl
            | true => exact absurd (hsch.1 h) hq
          rw[hR.out, H.out, hf]; rfl
        clear hsch H
        go_wp2_with (go_at_call 108; refine(q21 _ _).mono ?_; rintro e w' ⟨rfl, rfl⟩)
        all_goals first
          | (go_ret; exact⟨z06 (by rw[HN.out]; rfl), hbl⟩)
          | (exfalso; simp only [Bool.not_eq_true', Bool.not_eq_false', decide_eq_false_iff_not, decide_eq_true_eq, bne_iff_ne, beq_iff_eq, beq_eq_false_iff_ne, bne_eq_false_iff_eq, ne_eq] at *; omega)
          | (exfalso; (have hk0:k=0 := by assumption); subst hk0; simp only [Bool.not_eq_true', Bool.not_eq_false', decide_eq_false_iff_not, decide_eq_true_eq, bne_iff_ne, beq_iff_eq, beq_eq_false_iff_ne, bne_eq_false_iff_eq, ne_eq] at *; omega)
    · go_wp2
      go_ret
      refine⟨z06 ?_, hbl⟩
      obtain rfl:k=i := by omega
      rw[hR.out, hr.out, Nat.sub_self, if_pos (by rfl)]

theorem z4k (s:ByteArray) (w:World) (hs:s.size ≤ 67108864) :
    Calls prog 109 #[.string s] w fun e w' => e=.returned (.int .i64 (Mg.z1j s.data.toList)) ∧ Below w.heap.size w w' := by
  rw[Mg.schOf_eq]
  rcases q5t [58, 47, 63, 35] Mg.z1p j2s s.data.toList with ⟨h1, h2, _, _⟩ | ⟨h1, h2, _, _⟩
  · rw[if_neg (by rw[h2]; simp)]
    exact z8b s w hs (by omega)
  · have hl:s.data.toList.findIdx Mg.z1p < s.size := by simpa using h1
    have hg:s.data.toList[s.data.toList.findIdx Mg.z1p]? = some (s[s.data.toList.findIdx Mg.z1p]'hl) := Lib.data_getElem? s _ hl
    by_cases h0:s.data.toList.findIdx Mg.z1p=0
    · have := z8b s w hs (by rw[h2, h0]; decide)
      rw[h0]
      simpa using this
    · by_cases h58:((s[s.data.toList.findIdx Mg.z1p]'hl).toNat:Int)=58
      · have := q2h s w _ hs h2 (by omega) hl h58 _ rfl
        have e:s[s.data.toList.findIdx Mg.z1p]'hl=58 := UInt8.toNat_inj.1 (by rw[show (58:UInt8).toNat=58 from rfl]; omega)
        rw[hg, e]
        simpa using this
      · have := z9y s w _ hs h2 (by omega) hl h58
        rw[if_neg]
        · exact this
        · rw[hg]
          rintro ⟨e, _⟩
          injection e with e
          rw[e] at h58
          exact h58 rfl
end Go.Proofs.YtagleefekmdldaaGreatDoor
