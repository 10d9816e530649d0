/- Contracts of the program's Folded and Name. Condition: a text of at most 33554432 bytes. -/
import Derived.Test.YtagleefekmdldaaGreatDoorYMkRd3
import Derived.Lib.ConvBytes
import Derived.Laws.BytesArg
import Derived.Test.YtagleefekmdldaaGreatDoorYKit
import Derived.Test.YtagleefekmdldaaGreatDoorYUrlPlain
set_option linter.unusedVariables false
set_option linter.unusedSimpArgs false
set_option maxHeartbeats 1000000
set_option maxRecDepth 100000
namespace Mk
theorem q6u (c:UInt8):small c=true↔(97 ≤ (c.toNat:Int) ∧ (c.toNat:Int) ≤ 122) := Mg.z0h (fun c => small c=true↔(97 ≤ (c.toNat:Int) ∧ (c.toNat:Int) ≤ 122)) (by decide +kernel) c
theorem q4w (c:UInt8):(small c || (Mg.Y4 c || c == 45))=true↔((97 ≤ (c.toNat:Int) ∧ (c.toNat:Int) ≤ 122)∨(48 ≤ (c.toNat:Int) ∧ (c.toNat:Int) ≤ 57)∨(c.toNat:Int)=45) := Mg.z0h (fun c => (small c || (Mg.Y4 c || c == 45))=true↔((97 ≤ (c.toNat:Int) ∧ (c.toNat:Int) ≤ 122)∨(48 ≤ (c.toNat:Int) ∧ (c.toNat:Int) ≤ 57)∨(c.toNat:Int)=45)) (by decide +kernel) c
end Mk
namespace Go.Proofs.YtagleefekmdldaaGreatDoor
open Go.Proofs.Tryz Go.RowKit
def BytesAt (w:World) (b:Nat) (l:List UInt8):Prop := ∀ j, j < l.length → w.cell? ⟨b, j, none⟩=some (.int .u8 ((l.getD j 0).toNat:Int)) ∧ w.frozen? ⟨b, j, none⟩=false
theorem BytesAt.set_ {w:World} {b:Nat} {l:List UInt8} (h:BytesAt w b l) {k:Nat} (hk:k < l.length) (c:UInt8) {x:Int} (hx:x=(c.toNat:Int)):BytesAt (w.setCell ⟨b, k, none⟩ (.int .u8 x)) b (l.set k c) := by
  intro j hj
  rw[List.length_set] at hj
  refine⟨?_, by rw[World.frozen?_setCell]; exact(h j hj).2⟩
  by_cases e:k=j
  · subst e
    rw[World.cell?_setCell_same _ _ _ (h k hk).1, hx]
    simp[List.getD, hk]
  · rw[World.cell?_setCell_other _ _ _ _ (by intro q; injection q with q1 q2; exact e q2), (h j hj).1]
    simp[List.getD, List.getElem?_set_ne e]

theorem q1j (s:ByteArray) (w:World) (hs:s.size ≤ 33554432) :
    Calls prog 140 #[.string s] w fun e w' => e=.returned (.string (st (Mg.fold s.data.toList))) ∧ Below w.heap.size w w' := by
  have hcv := Lib.run_convert_string_bytes (P := prog) w 9 85 5 s (u := .string) underlying9 underlying85 underlying5
  have hba:BytesAt (Lib.bytesWorld w 5 s) w.heap.size s.data.toList := by
    intro j hj
    rw[bs_len] at hj
    refine⟨?_, ?_⟩
    · have := Lib.bytesWorld_cell w 5 s j hj
      simpa using this
    · have h1 := Lib.bytesWorld_cell w 5 s j hj
      have h2 := Lib.bytesWorld_at_new w 5 s
      have h3:j < (Lib.bytesCells w 5 s).size := by
        rcases Nat.lt_or_ge j (Lib.bytesCells w 5 s).size with h | h
        · exact h
        · rw[cell_of_row _ _ _ _ _ _ h2, Array.getElem?_eq_none h] at h1; cases h1
      simp only [World.frozen?, h2]
      simp; omega
  have hbw:Below w.heap.size w (Lib.bytesWorld w 5 s) := ⟨rfl, rfl, rfl, by rw[Lib.bytesWorld_size]; omega, fun k hk => Lib.bytesWorld_at_old w _ s k hk⟩
  generalize Lib.bytesWorld w 5 s=wv at hcv hba hbw
  have hcb := fun (W:World) cap (l:List UInt8) (hl:l.length=s.size) (h:BytesAt W w.heap.size l) => run_convert_bytes_arg (P := prog) W 85 5 underlying85 underlying5 w.heap.size 0 s.size cap (l.map fun c => (c.toNat:Int)) (by simpa using hl) (fun i hi => by rw[Nat.zero_add, (h i (by omega)).1]; simp[List.getD, List.getElem?_eq_getElem (show i < l.length by omega)]) 9 underlying9
  have HCB := Ld hcb
  clear hcb
  go_enter func140, ntmps140
  go_wp2_with fail
  clear hcv
  have hsz:w.heap.size < wv.heap.size∨s.size=0 := by
    rcases Nat.eq_zero_or_pos s.size with h | h
    · exact .inr h
    · exact .inl (World.block_lt_of_cell? wv ⟨w.heap.size, 0, none⟩ (hba 0 (by rw[bs_len]; exact h)).1)
  go_loopw [10] (fun i wr => ∃ k:Nat, k ≤ s.size ∧ i=.int .i64 k ∧ Hid (BytesAt wr w.heap.size (Mg.fold (s.data.toList.take k) ++ s.data.toList.drop k)) ∧ Hid (Below w.heap.size w wr)) (fun i _ => s.size - (intOf i).toNat)
  case atStart => exact⟨0, Nat.zero_le _, rfl, by show BytesAt _ _ _; simpa [Mg.fold] using hba, hbw⟩
  case round =>
    obtain⟨k, hk, rfl, BA, BL⟩ := hrel
    by_cases hlt:k < s.size
    · have hll:(Mg.fold (s.data.toList.take k)).length=k := by rw[Mg.fold, List.length_map, List.length_take, bs_len]; omega
      have hlen:k < (Mg.fold (s.data.toList.take k) ++ s.data.toList.drop k).length := by rw[List.length_append, hll, List.length_drop, bs_len]; omega
      have hgd:(Mg.fold (s.data.toList.take k) ++ s.data.toList.drop k).getD k 0=s[k] := by
        rw[X6 s k hlt]
        simp[List.getD, List.getElem?_append_right (Nat.le_of_eq hll), hll]
      have hc := (BA.out k hlen).1
      have hf := (BA.out k hlen).2
      rw[hgd] at hc
      have hset:∀ c:UInt8, (Mg.fold (s.data.toList.take k) ++ s.data.toList.drop k).set k c=Mg.fold (s.data.toList.take k) ++ c :: s.data.toList.drop (k + 1) := by
        intro c
        rw[X6 s k hlt, List.set_append_right _ _ (Nat.le_of_eq hll), hll]
        simp
      have hnx:Mg.fold (s.data.toList.take k) ++ Mg.low s[k] :: s.data.toList.drop (k + 1)=Mg.fold (s.data.toList.take (k + 1)) ++ s.data.toList.drop (k + 1) := by rw[z5p s k hlt]; simp[Mg.fold]
      have hb:(s[k].toNat:Int) ≤ 255 := by have := s[k].toNat_lt; omega
      have hl := Mg.q7x s[k]
      by_cases hup:65 ≤ (s[k].toNat:Int) ∧ (s[k].toNat:Int) ≤ 90
      · have hv:(s[k].toNat:Int) + 32=((Mg.low s[k]).toNat:Int) := by rw[hl, if_pos (by omega)]; omega
        have BA2:Hid (BytesAt (wr.setCell ⟨w.heap.size, k, none⟩ (.int .u8 ((s[k].toNat:Int) + 32))) w.heap.size (Mg.fold (s.data.toList.take (k + 1)) ++ s.data.toList.drop (k + 1))) := by
          have := BA.out.set_ hlen (Mg.low s[k]) hv
          rw[hset, hnx] at this
          exact this
        have BL2:Hid (Below w.heap.size w (wr.setCell ⟨w.heap.size, k, none⟩ (.int .u8 ((s[k].toNat:Int) + 32)))) := BL.out.setCell (p := ⟨w.heap.size, k, none⟩) (Lr) _
        clear hset hnx hl hv hgd hll hlen
        go_wp2_with fail
        go_roundw
        case rel => exact⟨k + 1, by omega, by go_num, BA2, BL2⟩
        case measure => simp[intOf]; omega
      · have hv:(s[k].toNat:Int)=((Mg.low s[k]).toNat:Int) := by rw[hl, if_neg (by omega)]
        have BA2:Hid (BytesAt wr w.heap.size (Mg.fold (s.data.toList.take (k + 1)) ++ s.data.toList.drop (k + 1))) := by
          rw[← hnx, ← (show s[k]=Mg.low s[k] from UInt8.toNat_inj.1 (by omega)), ← X6 s k hlt]; exact BA
        clear hset hnx hl hv hgd hll hlen
        go_wp2_with fail
        all_goals
          go_roundw
          case rel => exact⟨k + 1, by omega, by go_num, BA2, BL⟩
          case measure => simp[intOf]; omega
    · have hks:k=s.size := by omega
      subst hks
      rw[List.take_of_length_le (by simp), List.drop_of_length_le (by simp), List.append_nil] at BA
      have hcc := HCB.out wr (grownCap w s.size 0 5) _ (by simp[Mg.fold]) BA.out
      have hfin:strOfNums (List.map (fun c => ((c:UInt8).toNat:Int)) (Mg.fold s.data.toList))=st (Mg.fold s.data.toList) := by
        simp only [strOfNums, List.map_map, st]
        congr 2
        conv => rhs; rw[← List.map_id (Mg.fold s.data.toList)]
        apply List.map_congr_left
        intro a _
        simp
      rw[hfin] at hcc
      clear hfin HCB BA
      go_wp2_with fail
      go_ret
      exact⟨rfl, BL.out⟩
theorem z7f (s:ByteArray) (w:World) (hs:s.size ≤ 33554432) :
    Calls prog 72 #[.string s] w fun e w' => e=.returned (.bool (Mk.isName s.data.toList)) ∧ w'=w := by
  go_enter func72, ntmps72
  go_wp2_with fail
  go_loopw [7] (fun i wr => ∃ k:Nat, k ≤ s.size ∧ i=.int .i64 k ∧ wr=w ∧ Hid (Mk.z0o true s.data.toList=Mk.z0o (decide (k=0)) (s.data.toList.drop k))) (fun i _ => s.size - (intOf i).toNat)
  case atStart => exact⟨0, Nat.zero_le _, rfl, rfl, by show _=_; simp⟩
  case round =>
    obtain⟨k, hk, rfl, rfl, HR⟩ := hrel
    by_cases hlt:k < s.size
    · have hb:(s[k].toNat:Int) ≤ 255 := by have := s[k].toNat_lt; omega
      have h1 := Mk.q6u s[k]
      have h2 := Mk.q4w s[k]
      have hst:Mk.z0o true s.data.toList=((Mk.small s[k] || (!decide (k=0) && (Mg.Y4 s[k] || s[k] == 45))) && Mk.z0o false (s.data.toList.drop (k + 1))) := by rw[HR.out, X6 s k hlt]; rfl
      have HNO:Hid ((Mk.small s[k] || (!decide (k=0) && (Mg.Y4 s[k] || s[k] == 45)))=false → Mk.isName s.data.toList=false) := by
        intro h
        rw[Mk.isName, hst, h]; simp
      have HYES:Hid ((Mk.small s[k] || (!decide (k=0) && (Mg.Y4 s[k] || s[k] == 45)))=true → Mk.z0o true s.data.toList=Mk.z0o (decide (k + 1=0)) (s.data.toList.drop (k + 1))) := by
        intro h
        rw[hst, h]; simp
      clear HR hst
      rcases Nat.eq_zero_or_pos k with h0 | h0
      · subst h0
        simp only [decide_true, Bool.not_true, Bool.false_and, Bool.or_false] at HNO HYES
        have H1 := Ld h1
        clear h1 h2
        by_cases hsm:(97 ≤ (s[0].toNat:Int) ∧ (s[0].toNat:Int) ≤ 122)
        · have Y := Ld (HYES.out (H1.out.2 hsm))
          clear HNO HYES H1
          go_wp2_with fail
          go_roundw
          case rel => exact⟨1, by omega, by go_num, by trivial, Y⟩
          case measure => simp[intOf]; omega
        · have Y := Ld (HNO.out (by rw[Bool.eq_false_iff]; intro h; exact hsm (H1.out.1 h)))
          clear HNO HYES H1
          go_wp2_with fail
          all_goals first | (go_ret; exact⟨Z8 Y.out.symm, rfl⟩) | (exfalso; clear Y; simp at *; omega)
      · rw[decide_eq_false (by omega:¬ k=0)] at HNO HYES
        simp only [Bool.not_false, Bool.true_and] at HNO HYES
        have H2 := Ld h2
        clear h1 h2
        have hk0:((k:Int) == 0)=false := by rw[beq_eq_false_iff_ne]; omega
        by_cases hsm:((97 ≤ (s[k].toNat:Int) ∧ (s[k].toNat:Int) ≤ 122)∨(48 ≤ (s[k].toNat:Int) ∧ (s[k].toNat:Int) ≤ 57)∨(s[k].toNat:Int)=45)
        · have Y := Ld (HYES.out (H2.out.2 hsm))
          clear HNO HYES H2
          go_wp2_with fail
          all_goals first
            | (go_ret; exfalso; omega)
            | (go_roundw
               case rel => exact⟨k + 1, by omega, by go_num, by trivial, Y⟩
               case measure => simp[intOf]; omega)
        · have Y := Ld (HNO.out (by rw[Bool.eq_false_iff]; intro h; exact hsm (H2.out.1 h)))
          clear HNO HYES H2
          go_wp2_with fail
          all_goals first
            | (go_ret; exact⟨Z8 Y.out.symm, rfl⟩)
            | (exfalso; clear Y; simp at *; omega)
    · have hks:k=s.size := by omega
      have Y:Hid (Mk.z0o true s.data.toList=true) := by
        show _=_
        rw[HR.out, List.drop_of_length_le (by simp; omega)]
        cases (decide (k=0)) <;> rfl
      clear HR
      have hY:Mk.isName s.data.toList=(!s.toList.isEmpty && decide ((s.size:Int) ≤ 20)) := by
        rw[Mk.isName, Y.out, Lib.toList_data, bs_len, Bool.and_true]
        congr 1
        · cases s.data.toList <;> rfl
        · rw[Bool.eq_iff_iff, decide_eq_true_iff, decide_eq_true_iff]; omega
      have HY := Ld hY
      clear hY Y
      go_wp2_with fail
      all_goals (go_ret; refine⟨Z8 ?_, rfl⟩; rw[HY.out]; try (simp[*]; done))
end Go.Proofs.YtagleefekmdldaaGreatDoor
namespace Go.Proofs.YtagleefekmdldaaGreatDoor
open Go.RowKit

structure Ap (S:Nat→Prop) (w w':World):Prop where
 os:w'.os=w.os
 tape:w'.tape=w.tape
 output:w'.output=w.output
 size:w.heap.size≤w'.heap.size
 block:∀ k,k < w.heap.size→¬ S k→w'.heap[k]? = w.heap[k]?
theorem Ap.refl (S:Nat→Prop) (w:World):Ap S w w:=⟨rfl,rfl,rfl,Lr,fun _ _ _=>rfl⟩
theorem Ap.trans {S:Nat→Prop} {a b c:World} (h:Ap S a b) (k:Ap S b c):Ap S a c :=
 ⟨k.os.trans h.os,k.tape.trans h.tape,k.output.trans h.output,Nat.le_trans h.size k.size,fun i hi hs=>(k.block i (Nat.lt_of_lt_of_le hi h.size) hs).trans (h.block i hi hs)⟩
theorem Ap.of_below {S:Nat→Prop} {a b:World} (h:Below a.heap.size a b):Ap S a b:=⟨h.os,h.tape,h.output,h.size,fun k hk _=>h.block k hk⟩
theorem Ap.below {S:Nat→Prop} {B:Nat} {a b:World} (h:Ap S a b) (hB:B≤a.heap.size) (hS:∀ k,k < B→¬ S k):Below B a b :=
 ⟨h.os,h.tape,h.output,h.size,fun k hk=>h.block k (by omega) (hS k hk)⟩
theorem Ap.sub {S T:Nat→Prop} {a b:World} (h:Ap S a b) (hs:∀ k,S k→T k):Ap T a b:=⟨h.os,h.tape,h.output,h.size,fun k hk ht=>h.block k hk (fun q=>ht (hs k q))⟩
theorem Ap.drewN {S:Nat→Prop} {a b:World} (h:Ap S a b) (n:Nat):Ap S a (b.drewN n):=⟨h.os,h.tape,h.output,h.size,h.block⟩
theorem Ap.drew {S:Nat→Prop} {a b:World} (h:Ap S a b):Ap S a b.drew:=⟨h.os,h.tape,h.output,h.size,h.block⟩
theorem Ap.setCell {S:Nat→Prop} {a b:World} (h:Ap S a b) {p:Addr} (hp:S p.block) (v:Value):Ap S a (b.setCell p v) :=
 ⟨h.os,h.tape,h.output,by have:=h.size;simpa [World.setCell] using this,fun k hk hs=>(Below.heap_setCell b p v k (by rintro rfl;exact hs hp)).trans (h.block k hk hs)⟩
theorem Ap.alloc {S:Nat→Prop} {a b:World} (h:Ap S a b) (o:Obj):Ap S a (b.alloc o):=h.trans (Ap.of_below ((Below.refl _ b).alloc (Lr) o))
theorem Ap.grown {S:Nat→Prop} {a b c:World} (h:Ap S a b) {row:Option Nat} (hg:b.grownBy c row) (hr:∀ k,k < a.heap.size→row=some k→S k):Ap S a c :=
 ⟨hg.os.trans h.os,hg.tape.trans h.tape,hg.output.trans h.output,Nat.le_trans h.size hg.size,fun k hk hs=>(hg.block k (Nat.lt_of_lt_of_le hk h.size) (fun e=>hs (hr k hk e.symm))).trans (h.block k hk hs)⟩

def z1v (w:World) (K:Nat→Prop) (ao:Option Addr) (xs:List Value):Prop :=
 xs=[]∨∃ g o,ao=some ⟨g,o,none⟩∧K g∧(∀ i v,xs[i]? = some v→w.cell? ⟨g,o + i,none⟩=some v)∧(∀ i,i < xs.length→w.frozen? ⟨g,o + i,none⟩=false)
theorem cell_of_block {w w':World} {g:Nat} (h:w'.heap[g]? = w.heap[g]?) (o:Nat):w'.cell? ⟨g,o,none⟩=w.cell? ⟨g,o,none⟩:=by
 simp[World.cell?,h]
theorem q5r {w w':World} {g:Nat} (h:w'.heap[g]? = w.heap[g]?) (o:Nat):w'.frozen? ⟨g,o,none⟩=w.frozen? ⟨g,o,none⟩:=by
 simp[World.frozen?,h]
theorem z1v.frame {w w':World} {K K':Nat→Prop} {ao:Option Addr} {xs:List Value} (h:z1v w K ao xs) (hk:∀ b,K b→K' b∧w'.heap[b]? = w.heap[b]?):z1v w' K' ao xs:=by
 rcases h with h | ⟨g,o,h1,h2,h3,h4⟩
 ·exact .inl h
 ·exact .inr ⟨g,o,h1,(hk g h2).1,fun i v hi=>(cell_of_block (hk g h2).2 _).trans (h3 i v hi),fun i hi=>(q5r (hk g h2).2 _).trans (h4 i hi)⟩
theorem z1v.of_own {w:World} {K:Nat→Prop} {B size n:Nat} {e:TypeId} {v:Value} {xs:List Value} (h:w.ownsRow B e size v n xs) (hK:∀ g,v.ownBlock=some g→K g):∃ ao cap,v=.slice ao n cap∧z1v w K ao xs∧n≤cap∧n≤maxLen:=by
 rcases h.2 with ⟨hv,hn⟩ | ⟨g,cap,cur,hv,_,hh,hnc,hcm,hcs,ht⟩
 ·subst hn
  exact⟨none,0,hv,.inl (List.eq_nil_of_length_eq_zero (by have:=h.1;omega)),Lr,Nat.zero_le _⟩
 ·refine⟨some ⟨g,0,none⟩,cap,hv,.inr ⟨g,0,rfl,hK g (by rw[hv];rfl),fun i u hi=>?_,fun i _=>by simp[World.frozen?,hh]⟩,hnc,Nat.le_trans hnc hcm⟩
  have:=h.cells (g:=g) (by rw[hv];rfl) i u hi;have e1:(⟨g,0,none⟩:Addr).add i=⟨g,0 + i,none⟩:=by unfold Addr.add;split <;> simp_all
  rwa [e1] at this

def Z5 (l:List Mk.At):List Value:=l.flatMap fun x=>[.string (st x.n),.string (st x.v)]
def AtsV (w:World) (K:Nat→Prop) (v:Value) (l:List Mk.At):Prop:=∃ ao cap,v=.slice ao l.length cap∧z1v w K ao (Z5 l)∧l.length≤cap∧l.length≤maxLen
theorem AtsV.frame {w w':World} {K K':Nat→Prop} {v:Value} {l:List Mk.At} (h:AtsV w K v l) (hk:∀ b,K b→K' b∧w'.heap[b]? = w.heap[b]?):AtsV w' K' v l:=by
 obtain⟨ao,cap,h1,h2,h3⟩:=h;exact⟨ao,cap,h1,h2.frame hk,h3⟩
theorem AtsV.nil (w:World) (K:Nat→Prop):AtsV w K (.slice none 0 0) []:=⟨none,0,rfl,.inl rfl,Lr,Nat.zero_le _⟩
theorem AtsV.nil' (w:World) (K:Nat→Prop) (ao:Option Addr) (c:Nat):AtsV w K (.slice ao 0 c) []:=⟨ao,c,rfl,.inl rfl,Nat.zero_le _,Nat.zero_le _⟩
theorem AtsV.of_own {w:World} {K:Nat→Prop} {B:Nat} {e:TypeId} {v:Value} {l:List Mk.At} (h:w.ownsRow B e 2 v l.length (Z5 l)) (hK:∀ g,v.ownBlock=some g→K g):AtsV w K v l:=by
 obtain⟨ao,cap,h1,h2,h3⟩:=z1v.of_own h hK;exact⟨ao,cap,h1,h2,h3⟩

def z0j (w:World) (K:Nat→Prop):List Mk.Tok→List Value→Prop
 | [],xs=>xs=[]
 | t :: r,xs=>∃ va ys,xs=[.int .i64 t.kind,.string (st t.name),va,.string (st t.text)]++ys∧AtsV w K va t.ats∧z0j w K r ys
theorem z0j.frame {w w':World} {K K':Nat→Prop} (hk:∀ b,K b→K' b∧w'.heap[b]? = w.heap[b]?):∀ {l:List Mk.Tok} {xs:List Value},z0j w K l xs→z0j w' K' l xs
 | [],_,h=>h
 | _ :: _,_,⟨va,ys,h1,h2,h3⟩=>⟨va,ys,h1,h2.frame hk,z0j.frame hk h3⟩
theorem z0j.length {w:World} {K:Nat→Prop}:∀ {l:List Mk.Tok} {xs:List Value},z0j w K l xs→xs.length=l.length * 4
 | [],_,h=>by rw[h];rfl
 | t :: r,_,⟨va,ys,h1,_,h3⟩=>by rw[h1,List.length_append,h3.length,List.length_cons];simp;omega
theorem z0j.snoc {w:World} {K:Nat→Prop} {t:Mk.Tok} {va:Value} (ha:AtsV w K va t.ats):∀ {l:List Mk.Tok} {xs:List Value},z0j w K l xs→z0j w K (l++[t]) (xs++[.int .i64 t.kind,.string (st t.name),va,.string (st t.text)])
 | [],_,h=>by rw[h];exact⟨va,[],rfl,ha,rfl⟩
 | _ :: _,_,⟨vb,ys,h1,h2,h3⟩=>⟨vb,_,by rw[h1,List.append_assoc],h2,h3.snoc ha⟩
def z1b (w:World) (K:Nat→Prop) (v:Value) (l:List Mk.Tok):Prop:=∃ ao cap xs,v=.slice ao l.length cap∧z1v w K ao xs∧z0j w K l xs∧l.length≤maxLen

def Y0 (w:World) (K:Nat→Prop):Mk.Fo→List Value→Prop
 | .nil,xs=>xs=[]
 | .node n a t k r,xs=>∃ va ao cap zs ys,xs=[.string (st n),va,.string (st t),.slice ao k.len cap]++ys∧AtsV w K va a∧z1v w K ao zs∧k.len≤maxLen∧Y0 w K k zs∧Y0 w K r ys
theorem Y0.frame {w w':World} {K K':Nat→Prop} (hk:∀ b,K b→K' b∧w'.heap[b]? = w.heap[b]?):∀ {f:Mk.Fo} {xs:List Value},Y0 w K f xs→Y0 w' K' f xs
 | .nil,_,h=>h
 | .node _ _ _ _ _,_,⟨va,ao,cap,zs,ys,h1,h2,h3,h4,h5,h6⟩=>⟨va,ao,cap,zs,ys,h1,h2.frame hk,h3.frame hk,h4,Y0.frame hk h5,Y0.frame hk h6⟩
theorem Y0.length {w:World} {K:Nat→Prop}:∀ {f:Mk.Fo} {xs:List Value},Y0 w K f xs→xs.length=f.len * 4
 | .nil,_,h=>by rw[h];rfl
 | .node _ _ _ _ r,_,⟨va,ao,cap,zs,ys,h1,_,_,_,_,h6⟩=>by rw[h1,List.length_append,h6.length];simp[Mk.Fo.len];omega
def FoV (w:World) (K:Nat→Prop) (v:Value) (f:Mk.Fo):Prop:=∃ ao cap xs,v=.slice ao f.len cap∧z1v w K ao xs∧Y0 w K f xs∧f.len≤maxLen
theorem FoV.frame {w w':World} {K K':Nat→Prop} {v:Value} {f:Mk.Fo} (h:FoV w K v f) (hk:∀ b,K b→K' b∧w'.heap[b]? = w.heap[b]?):FoV w' K' v f:=by
 obtain⟨ao,cap,xs,h1,h2,h3,h4⟩:=h;exact⟨ao,cap,xs,h1,h2.frame hk,h3.frame hk,h4⟩
theorem z1b.frame {w w':World} {K K':Nat→Prop} {v:Value} {f:List Mk.Tok} (h:z1b w K v f) (hk:∀ b,K b→K' b∧w'.heap[b]? = w.heap[b]?):z1b w' K' v f:=by
 obtain⟨ao,cap,xs,h1,h2,h3,h4⟩:=h;exact⟨ao,cap,xs,h1,h2.frame hk,h3.frame hk,h4⟩

section
variable {P : Program} {w : World}
theorem z5i (base:Nat) (t ty e:TypeId) (i:TypeInfo) (z:Value) (size bytes:Nat) (ht:P.underlying t=some (.slice e)) (hi:P.info? e=some i) (hz:i.zero=some z)
  (hsize:i.size=size) (hby:i.bytes=bytes) (v:Value) (n:Nat) (xs:List Value) (hown:w.ownsRow base e size v n xs)
  (a:Addr) (m c:Nat) (news:List Value) (hl:news.length=m * size) (hnews:∀ j u,news[j]? = some u→w.cell? (a.add j)=some u) (h1:∀ u ∈ news,u.oneCell'=true)
  (hm0:0 < m) (h63:n + m≤maxLen) (hbytes:(n + m) * bytes≤140737488355328) {v':Value} {w':World}
  (hr:(Builtin.append_ #[t,t] ty #[v,.slice (some a) m c]).run P w=.ok v' w'):v'.ownBlock=v.ownBlock∨v'.ownBlock=some w.heap.size:=by
 subst hsize;subst hby;have hsmall:n + m≤9223372036854775807:=by simp only [maxLen] at h63;omega
 rcases hown.2 with ⟨rfl,rfl⟩ | ⟨g,cap,cur,rfl,_,hg,hnc,_,hcs,_⟩
 ·rw[run_append_nil (P:=P) w t ty e i z ht hi hz a m c news hl hnews hm0 (by omega) (by rw[Nat.zero_add] at hbytes;omega)] at hr
  injection hr with h _;subst h;exact .inr rfl
 ·by_cases hroom:n + m≤cap
  ·have hfit:n * i.size + news.length≤cur.size:=by rw[hl,hcs,← Nat.add_mul];exact Nat.mul_le_mul_right _ hroom
   rw[run_append_room (P:=P) w t ty e i ht hi g n cap cur hg a m c news hl hnews h1 hroom hfit] at hr;injection hr with h _;subst h;exact .inl rfl
  ·rw[run_append_grow (P:=P) w t ty e i z ht hi hz ⟨g,0,none⟩ n cap xs hown.1 (hown.cells (g:=g) rfl) a m c news hl hnews (by omega) (by omega) (growslice_fits (by omega) hbytes)] at hr
   injection hr with h _;subst h;exact .inr rfl
theorem Q9 {ops:Array Oper} {rest:List Oper} {o:Oper} {a:Act} {Q:Exit→Act→World→Prop} (hgd:o.guard=none) (s x:Operand) (t:TypeId)
  (ho:o.op=.call { callee:=.builtin .append,args:=#[s,x],argTypes:=#[t,t] })
  (base:Nat) (e:TypeId) (i:TypeInfo) (z:Value) (size bytes:Nat) (ht:P.underlying t=some (.slice e)) (hi:P.info? e=some i) (hz:i.zero=some z)
  (hsize:i.size=size) (hby:i.bytes=bytes) (hzs:z.cells.size=size) (hsz:0 < size)
  (v:Value) (n:Nat) (xs:List Value) (hs:a.eval s=v) (hown:w.ownsRow base e size v n xs)
  (ad:Addr) (m c:Nat) (news:List Value) (hx:a.eval x=.slice (some ad) m c) (hl:news.length=m * size) (hnews:∀ j u,news[j]? = some u→w.cell? (ad.add j)=some u) (h1:∀ u ∈ news,u.oneCell'=true)
  (hm0:0 < m) (h63:n + m≤maxLen) (hbytes:(n + m) * bytes≤140737488355328) (hbase:base≤w.heap.size)
  (h:∀ v' w',w'.ownsRow base e size v' (n + m) (xs++news)→w.grownBy w' v.ownBlock→(v'.ownBlock=v.ownBlock∨v'.ownBlock=some w.heap.size)→wpList P ops Q rest (a.put o.dst v') w'):wpList P ops Q (o :: rest) a w:=by
 refine wpList_plain hgd fun K hK=>?_
 obtain⟨v',w',hr,h2,h3,_⟩:=run_append_own (P:=P) w base t o.type e i z size bytes ht hi hz hsize hby hzs hsz v n xs hown ad m c news hl hnews h1 h63 hbytes hbase;have h5:=z5i base t o.type e i z size bytes ht hi hz hsize hby v n xs hown ad m c news hl hnews h1 hm0 h63 hbytes hr;have hfin:=hK _ _ (h v' w' h2 h3 h5);unfold Oper.wp execOp;simp only [ho,resolve,invoke,builtin,Sem.run_bind,Sem.run_pure,Result.andThen_ok,List.map_toArray,List.map_cons,List.map_nil,hs,hx,hr];exact hfin
end
end Go.Proofs.YtagleefekmdldaaGreatDoor
