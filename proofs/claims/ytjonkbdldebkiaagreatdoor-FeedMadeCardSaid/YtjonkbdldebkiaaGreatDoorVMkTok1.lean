/- Contracts of the program's Folded and Name. Condition: a text of at most 33554432 bytes. -/
import Derived.Test.YtjonkbdldebkiaaGreatDoorVMkRd3
import Derived.Lib.ConvBytes
import Derived.Laws.BytesArg
set_option linter.unusedVariables false
set_option linter.unusedSimpArgs false
set_option maxHeartbeats 1000000
set_option maxRecDepth 100000
namespace Mk
theorem j7i (c:UInt8):small c=true↔(97 ≤ (c.toNat:Int) ∧ (c.toNat:Int) ≤ 122) := Mg.z0x (fun c => small c=true↔(97 ≤ (c.toNat:Int) ∧ (c.toNat:Int) ≤ 122)) (by decide +kernel) c
theorem q5d (c:UInt8):(small c || (Mg.z04 c || c == 45))=true↔((97 ≤ (c.toNat:Int) ∧ (c.toNat:Int) ≤ 122)∨(48 ≤ (c.toNat:Int) ∧ (c.toNat:Int) ≤ 57)∨(c.toNat:Int)=45) := Mg.z0x (fun c => (small c || (Mg.z04 c || c == 45))=true↔((97 ≤ (c.toNat:Int) ∧ (c.toNat:Int) ≤ 122)∨(48 ≤ (c.toNat:Int) ∧ (c.toNat:Int) ≤ 57)∨(c.toNat:Int)=45)) (by decide +kernel) c
end Mk
namespace Go.Proofs.YtjonkbdldebkiaaGreatDoor
open Go.Proofs.Tryz Go.RowKit
def BytesAt (w:World) (b:Nat) (l:List UInt8):Prop := ∀ j, j < l.length → w.cell? ⟨b, j, none⟩=some (.int .u8 ((l.getD j 0).toNat:Int)) ∧ w.frozen? ⟨b, j, none⟩=false
theorem BytesAt.set_ {w:World} {b:Nat} {l:List UInt8} (h:BytesAt w b l) {k:Nat} (hk:k < l.length) (c:UInt8) {x:Int} (hx:x=(c.toNat:Int)):BytesAt (w.setCell ⟨b, k, none⟩ (.int .u8 x)) b (l.set k c) := by
  intro j hj
  rw[List.length_set] at hj
  refine⟨?_, by rw[World.frozen?_setCell]; exact(h j hj).2⟩
  by_cases e:k=j
  · subst e
    rw[World.cell?_setCell_same _ _ _ (h k hk).1, hx]
    simp[List.getD, hk]
  · rw[World.cell?_setCell_other _ _ _ _ (by intro q; injection q with q1 q2; exact e q2), (h j hj).1]
    simp[List.getD, List.getElem?_set_ne e]

theorem q1b (s:ByteArray) (w:World) (hs:s.size ≤ 33554432) :
    Calls prog 269 #[.string s] w fun e w' => e=.returned (.string (st (Mg.fold s.data.toList))) ∧ Below w.heap.size w w' := by
  have hcv := Lib.run_convert_string_bytes (P := prog) w 9 94 5 s (u := .string) underlying9 underlying94 underlying5
  have hba:BytesAt (Lib.bytesWorld w 5 s) w.heap.size s.data.toList := by
    intro j hj
    rw[bs_len] at hj
    refine⟨?_, ?_⟩
    · have := Lib.bytesWorld_cell w 5 s j hj
      simpa using this
    · have h1 := Lib.bytesWorld_cell w 5 s j hj
      have h2 := Lib.bytesWorld_at_new w 5 s
      have h3:j < (Lib.bytesCells w 5 s).size := by
        rcases Nat.lt_or_ge j (Lib.bytesCells w 5 s).size with h | h
        · exact h
        · rw[cell_of_row _ _ _ _ _ _ h2, Array.getElem?_eq_none h] at h1; cases h1
      simp only [World.frozen?, h2]
      simp; omega
  have hbw:Below w.heap.size w (Lib.bytesWorld w 5 s) := ⟨rfl, rfl, rfl, by rw[Lib.bytesWorld_size]; omega, fun k hk => Lib.bytesWorld_at_old w _ s k hk⟩
  generalize Lib.bytesWorld w 5 s=wv at hcv hba hbw
  have hcb := fun (W:World) cap (l:List UInt8) (hl:l.length=s.size) (h:BytesAt W w.heap.size l) => run_convert_bytes_arg (P := prog) W 94 5 underlying94 underlying5 w.heap.size 0 s.size cap (l.map fun c => (c.toNat:Int)) (by simpa using hl) (fun i hi => by rw[Nat.zero_add, (h i (by omega)).1]; simp[List.getD, List.getElem?_eq_getElem (show i < l.length by omega)]) 9 underlying9
  have HCB := Ld hcb
  clear hcb
  go_enter func269, ntmps269
  go_wp2_with fail
  clear hcv
  have hsz:w.heap.size < wv.heap.size∨s.size=0 := by
    rcases Nat.eq_zero_or_pos s.size with h | h
    · exact .inr h
    · exact .inl (World.block_lt_of_cell? wv ⟨w.heap.size, 0, none⟩ (hba 0 (by rw[bs_len]; exact h)).1)
  go_loopw [10] (fun i wr => ∃ k:Nat, k ≤ s.size ∧ i=.int .i64 k ∧ Hid (BytesAt wr w.heap.size (Mg.fold (s.data.toList.take k) ++ s.data.toList.drop k)) ∧ Hid (Below w.heap.size w wr)) (fun i _ => s.size - (intOf i).toNat)
  case atStart => exact⟨0, Nat.zero_le _, rfl, by show BytesAt _ _ _; simpa [Mg.fold] using hba, hbw⟩
  case round =>
    obtain⟨k, hk, rfl, BA, BL⟩ := hrel
    by_cases hlt:k < s.size
    · have hll:(Mg.fold (s.data.toList.take k)).length=k := by rw[Mg.fold, List.length_map, List.length_take, bs_len]; omega
      have hlen:k < (Mg.fold (s.data.toList.take k) ++ s.data.toList.drop k).length := by rw[List.length_append, hll, List.length_drop, bs_len]; omega
      have hgd:(Mg.fold (s.data.toList.take k) ++ s.data.toList.drop k).getD k 0=s[k] := by
        rw[z09 s k hlt]
        simp[List.getD, List.getElem?_append_right (Nat.le_of_eq hll), hll]
      have hc := (BA.out k hlen).1
      have hf := (BA.out k hlen).2
      rw[hgd] at hc
      have hset:∀ c:UInt8, (Mg.fold (s.data.toList.take k) ++ s.data.toList.drop k).set k c=Mg.fold (s.data.toList.take k) ++ c :: s.data.toList.drop (k + 1) := by
        intro c
        rw[z09 s k hlt, List.set_append_right _ _ (Nat.le_of_eq hll), hll]
        simp
      have hnx:Mg.fold (s.data.toList.take k) ++ Mg.low s[k] :: s.data.toList.drop (k + 1)=Mg.fold (s.data.toList.take (k + 1)) ++ s.data.toList.drop (k + 1) := by rw[z7v s k hlt]; simp[Mg.fold]
      have hb:(s[k].toNat:Int) ≤ 255 := by have := s[k].toNat_lt; omega
      have hl := Mg.j6d s[k]
      by_cases hup:65 ≤ (s[k].toNat:Int) ∧ (s[k].toNat:Int) ≤ 90
      · have hv:(s[k].toNat:Int) + 32=((Mg.low s[k]).toNat:Int) := by rw[hl, if_pos (by omega)]; omega
        have BA2:Hid (BytesAt (wr.setCell ⟨w.heap.size, k, none⟩ (.int .u8 ((s[k].toNat:Int) + 32))) w.heap.size (Mg.fold (s.data.toList.take (k + 1)) ++ s.data.toList.drop (k + 1))) := by
          have := BA.out.set_ hlen (Mg.low s[k]) hv
          rw[hset, hnx] at this
          exact this
        have BL2:Hid (Below w.heap.size w (wr.setCell ⟨w.heap.size, k, none⟩ (.int .u8 ((s[k].toNat:Int) + 32)))) := BL.out.setCell (p := ⟨w.heap.size, k, none⟩) (Lr) _
        clear hset hnx hl hv hgd hll hlen
        go_wp2_with fail
        go_roundw
        case rel => exact⟨k + 1, by omega, by go_num, BA2, BL2⟩
        case measure => simp[intOf]; omega
      · have hv:(s[k].toNat:Int)=((Mg.low s[k]).toNat:Int) := by rw[hl, if_neg (by omega)]
        have BA2:Hid (BytesAt wr w.heap.size (Mg.fold (s.data.toList.take (k + 1)) ++ s.data.toList.drop (k + 1))) := by
          rw[← hnx, ← (show s[k]=Mg.low s[k] from UInt8.toNat_inj.1 (by omega)), ← z09 s k hlt]; exact BA
        clear hset hnx hl hv hgd hll hlen
        go_wp2_with fail
        all_goals
          go_roundw
          case rel => exact⟨k + 1, by omega, by go_num, BA2, BL⟩
          case measure => simp[intOf]; omega
    · have hks:k=s.size := by omega
      subst hks
      rw[List.take_of_length_le (by simp), List.drop_of_length_le (by simp), List.append_nil] at BA
      have hcc := HCB.out wr (grownCap w s.size 0 5) _ (by simp[Mg.fold]) BA.out
      have hfin:strOfNums (List.map (fun c => ((c:UInt8).toNat:Int)) (Mg.fold s.data.toList))=st (Mg.fold s.data.toList) := by
        simp only [strOfNums, List.map_map, st]
        congr 2
        conv => rhs; rw[← List.map_id (Mg.fold s.data.toList)]
        apply List.map_congr_left
        intro a _
        simp
      rw[hfin] at hcc
      clear hfin HCB BA
      go_wp2_with fail
      go_ret
      exact⟨rfl, BL.out⟩
theorem q8e (s:ByteArray) (w:World) (hs:s.size ≤ 33554432) :
    Calls prog 188 #[.string s] w fun e w' => e=.returned (.bool (Mk.isName s.data.toList)) ∧ w'=w := by
  go_enter func188, ntmps188
  go_wp2_with fail
  go_loopw [7] (fun i wr => ∃ k:Nat, k ≤ s.size ∧ i=.int .i64 k ∧ wr=w ∧ Hid (Mk.z5p true s.data.toList=Mk.z5p (decide (k=0)) (s.data.toList.drop k))) (fun i _ => s.size - (intOf i).toNat)
  case atStart => exact⟨0, Nat.zero_le _, rfl, rfl, by show _=_; simp⟩
  case round =>
    obtain⟨k, hk, rfl, rfl, HR⟩ := hrel
    by_cases hlt:k < s.size
    · have hb:(s[k].toNat:Int) ≤ 255 := by have := s[k].toNat_lt; omega
      have h1 := Mk.j7i s[k]
      have h2 := Mk.q5d s[k]
      have hst:Mk.z5p true s.data.toList=((Mk.small s[k] || (!decide (k=0) && (Mg.z04 s[k] || s[k] == 45))) && Mk.z5p false (s.data.toList.drop (k + 1))) := by rw[HR.out, z09 s k hlt]; rfl
      have HNO:Hid ((Mk.small s[k] || (!decide (k=0) && (Mg.z04 s[k] || s[k] == 45)))=false → Mk.isName s.data.toList=false) := by
        intro h
        rw[Mk.isName, hst, h]; simp
      have HYES:Hid ((Mk.small s[k] || (!decide (k=0) && (Mg.z04 s[k] || s[k] == 45)))=true → Mk.z5p true s.data.toList=Mk.z5p (decide (k + 1=0)) (s.data.toList.drop (k + 1))) := by
        intro h
        rw[hst, h]; simp
      clear HR hst
      rcases Nat.eq_zero_or_pos k with h0 | h0
      · subst h0
        simp only [decide_true, Bool.not_true, Bool.false_and, Bool.or_false] at HNO HYES
        have H1 := Ld h1
        clear h1 h2
        by_cases hsm:(97 ≤ (s[0].toNat:Int) ∧ (s[0].toNat:Int) ≤ 122)
        · have Y := Ld (HYES.out (H1.out.2 hsm))
          clear HNO HYES H1
          go_wp2_with fail
          go_roundw
          case rel => exact⟨1, by omega, by go_num, by trivial, Y⟩
          case measure => simp[intOf]; omega
        · have Y := Ld (HNO.out (by rw[Bool.eq_false_iff]; intro h; exact hsm (H1.out.1 h)))
          clear HNO HYES H1
          go_wp2_with fail
          all_goals first | (go_ret; exact⟨Z8 Y.out.symm, rfl⟩) | (exfalso; clear Y; simp at *; omega)
      · rw[decide_eq_false (by omega:¬ k=0)] at HNO HYES
        simp only [Bool.not_false, Bool.true_and] at HNO HYES
        have H2 := Ld h2
        clear h1 h2
        have hk0:((k:Int) == 0)=false := by rw[beq_eq_false_iff_ne]; omega
        by_cases hsm:((97 ≤ (s[k].toNat:Int) ∧ (s[k].toNat:Int) ≤ 122)∨(48 ≤ (s[k].toNat:Int) ∧ (s[k].toNat:Int) ≤ 57)∨(s[k].toNat:Int)=45)
        · have Y := Ld (HYES.out (H2.out.2 hsm))
          clear HNO HYES H2
          go_wp2_with fail
          all_goals first
            | (go_ret; exfalso; omega)
            | (go_roundw
               case rel => exact⟨k + 1, by omega, by go_num, by trivial, Y⟩
               case measure => simp[intOf]; omega)
        · have Y := Ld (HNO.out (by rw[Bool.eq_false_iff]; intro h; exact hsm (H2.out.1 h)))
          clear HNO HYES H2
          go_wp2_with fail
          all_goals first
            | (go_ret; exact⟨Z8 Y.out.symm, rfl⟩)
            | (exfalso; clear Y; simp at *; omega)
    · have hks:k=s.size := by omega
      have Y:Hid (Mk.z5p true s.data.toList=true) := by
        show _=_
        rw[HR.out, List.drop_of_length_le (by simp; omega)]
        cases (decide (k=0)) <;> rfl
      clear HR
      have hY:Mk.isName s.data.toList=(!s.toList.isEmpty && decide ((s.size:Int) ≤ 20)) := by
        rw[Mk.isName, Y.out, Lib.toList_data, bs_len, Bool.and_true]
        congr 1
        · cases s.data.toList <;> rfl
        · rw[Bool.eq_iff_iff, decide_eq_true_iff, decide_eq_true_iff]; omega
      have HY := Ld hY
      clear hY Y
      go_wp2_with fail
      all_goals (go_ret; refine⟨Z8 ?_, rfl⟩; rw[HY.out]; try (simp[*]; done))
end Go.Proofs.YtjonkbdldebkiaaGreatDoor
