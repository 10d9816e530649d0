/- The plain law of told words: how long they are; nodes one by one. No program in sight. -/
import Derived.Test.YtjonkbdldebkiaaGreatDoorYWdPad
import Derived.Test.YtjonkbdldebkiaaGreatDoorYMkStay4
import Derived.Lib.FieldsP
import Derived.Lib.Join
import Derived.Test.YtjonkbdldebkiaaGreatDoorYMkBuf
import Derived.Test.YtjonkbdldebkiaaGreatDoorYMkTree14
import Derived.Deep.RegionHeld3
import Derived.Test.YtjonkbdldebkiaaGreatDoorYMkTok8
import Derived.Shelf.Strings.FieldsFuncGrows
import Derived.Test.YtjonkbdldebkiaaGreatDoorYShelf
import Derived.Test.YtjonkbdldebkiaaGreatDoorYKit
set_option linter.unusedVariables false
set_option linter.unusedSimpArgs false
namespace Fd
open Go
def whiteR (c : Nat) : Bool:=decide (c < 128) && Mk.white (UInt8.ofNat c)
def wsum (l : List (Nat × Nat)) : Nat:=(l.map fun x=>x.2 - x.1 + 1).sum
theorem wsum_snoc (l : List (Nat × Nat)) (a b : Nat) : wsum (l++[(a,b)]) = wsum l + (b - a + 1):=by simp [wsum]
theorem spans_sum (p : Nat→Bool) (s : ByteArray) : ∀ (f pos : Nat) (st : Option Nat) (acc : List (Nat × Nat)),pos≤s.size→(st = none→wsum acc≤pos)→(∀ a,st = some a→wsum acc≤a∧a≤pos)→wsum (Lib.closeSpans s (Lib.spansFromP p s f pos st acc))≤s.size + 1
 | 0,pos,st,acc,hp,h0,h1=>by
  rw [Lib.spansFromP]
  cases st with
  | none=>have:=h0 rfl;show wsum acc≤_;omega
  | some a=>obtain ⟨q1,q2⟩:=h1 a rfl;show wsum (acc++[(a,s.size)])≤_;rw [wsum_snoc];omega
 | f + 1,pos,st,acc,hp,h0,h1=>by
  by_cases hlt : pos < s.size
  ·have hwd:=Lib.width_pos s pos
   have hwn : pos + (Utf8.decode s pos).2≤s.size:=by
    have:=Lib.decodeN_le_n' (s.size - pos) (s.get! pos).toNat (s.get! (pos + 1)).toNat (s.get! (pos + 2)).toNat (s.get! (pos + 3)).toNat (by omega)
    rw [← Lib.decode_at] at this
    omega
   unfold Lib.spansFromP
   rw [if_pos hlt]
   split
   ·cases st with
    | none=>exact spans_sum p s f _ none acc hwn (fun _=>by have:=h0 rfl;omega) (fun a h=>by cases h)
    | some a =>
     obtain ⟨q1,q2⟩:=h1 a rfl
     exact spans_sum p s f _ none _ hwn (fun _=>by rw [wsum_snoc];omega) (fun a h=>by cases h)
   ·cases st with
    | none=>exact spans_sum p s f _ (some pos) acc hwn (fun h=>by cases h) (fun a h=>by cases h;exact ⟨h0 rfl,by omega⟩)
    | some a=>exact spans_sum p s f _ (some a) acc hwn (fun h=>by cases h) (fun b h=>by cases h;have:=h1 a rfl;exact ⟨this.1,by omega⟩)
  ·rw [Lib.spansFromP_end p s _ _ _ _ hlt]
   cases st with
   | none=>have:=h0 rfl;show wsum acc≤_;omega
   | some a=>obtain ⟨q1,q2⟩:=h1 a rfl;show wsum (acc++[(a,s.size)])≤_;rw [wsum_snoc];omega
theorem lens_le (s : ByteArray) : ∀ l : List (Nat × Nat),Lib.lens ((l.map fun x=>s.extract x.1 x.2).map (·.data.toList)) + l.length≤wsum l
 | []=>Nat.le_refl _
 | x :: l=>by
  have ih:=lens_le s l
  have h1 : (s.extract x.1 x.2).data.toList.length≤x.2 - x.1:=by
   rw [Lib.extract_data,List.length_take];omega
  have e1 : wsum (x :: l) = (x.2 - x.1 + 1) + wsum l:=rfl
  have e2 : Lib.lens (((x :: l).map fun x=>s.extract x.1 x.2).map (·.data.toList)) = (s.extract x.1 x.2).data.toList.length + Lib.lens ((l.map fun x=>s.extract x.1 x.2).map (·.data.toList)):=rfl
  rw [e1,e2,List.length_cons]
  omega
/-- words between white signs, with one blank between them. -/
def wordsP (s : ByteArray) : Bs:=Lib.join ((Lib.goFieldsP whiteR s).map (·.data.toList)) [32]
theorem words_len (s : ByteArray) : (wordsP s).length≤s.size + 1:=by
 have h1 : wsum (Lib.spansOfP whiteR s)≤s.size + 1:=spans_sum whiteR s s.size 0 none [] (Nat.zero_le _) (fun _=>Nat.le_refl _) (fun a h=>by cases h)
 have h2:=lens_le s (Lib.spansOfP whiteR s)
 unfold wordsP Lib.goFieldsP
 cases hl : Lib.spansOfP whiteR s with
 | nil=>exact Nat.zero_le _
 | cons x r =>
  rw [hl] at h1 h2
  rw [List.map_cons,List.map_cons,Lib.join_length]
  rw [List.map_cons,List.map_cons] at h2
  simp only [List.length_cons,List.length_nil,List.length_map] at h2 ⊢
  omega
theorem fields_len (s : ByteArray) : (Lib.goFieldsP whiteR s).length≤s.size + 1:=by
 have h1 : wsum (Lib.spansOfP whiteR s)≤s.size + 1:=spans_sum whiteR s s.size 0 none [] (Nat.zero_le _) (fun _=>Nat.le_refl _) (fun a h=>by cases h)
 have h2:=lens_le s (Lib.spansOfP whiteR s)
 unfold Lib.goFieldsP
 rw [List.length_map]
 omega
/-- one node, told. -/
def tellOne (n t : Bs) (k : Mk.Fo) : Bs:=t++((if Mk.emptyB n || apartB n then [32] else [])++(tellF k++(if apartB n then [32] else [])))
theorem tell_node (n : Bs) (a : List Mk.At) (t : Bs) (k r : Mk.Fo) : tellF (.node n a t k r) = tellOne n t k++tellF r:=by
 rw [tellF,tellOne]
 simp only [List.append_assoc]
theorem tell_len : ∀ f : Mk.Fo,(tellF f).length≤3 * f.bulk
 | .nil=>Nat.zero_le _
 | .node n a t k r=>by
  have h1:=tell_len k
  have h2:=tell_len r
  have e : Mk.Fo.bulk (.node n a t k r) = 1 + n.length + t.length + Mk.Fo.atB a + Mk.Fo.bulk k + Mk.Fo.bulk r:=rfl
  have b1 : (if Mk.emptyB n || apartB n then [32] else ([] : Bs)).length≤1:=by split <;> simp
  have b2 : (if apartB n then [32] else ([] : Bs)).length≤1:=by split <;> simp
  rw [tellF,e]
  simp only [List.length_append]
  omega
/-- words of markup. -/
def toldP (s : Bs) : Bs:=wordsP ⟨(tellF (Mk.build (Mk.toks s))).toArray⟩
theorem told_len (s : Bs) (h : s.length≤3000) : (tellF (Mk.build (Mk.toks s))).length≤4194304∧(toldP s).length≤4194305:=by
 have h1:=Mk.toks_bulk s
 have h2:=Mk.build_bulk (Mk.toks s)
 have h3:=tell_len (Mk.build (Mk.toks s))
 have h4:=words_len ⟨(tellF (Mk.build (Mk.toks s))).toArray⟩
 have e : (⟨(tellF (Mk.build (Mk.toks s))).toArray⟩ : ByteArray).size = (tellF (Mk.build (Mk.toks s))).length:=by simp [ByteArray.size]
 rw [e] at h4
 refine ⟨by omega,?_⟩
 unfold toldP
 omega
set_option maxRecDepth 100000 in
theorem begun_lineP : lineE toldP ⟨[105],[97,60,98],[104,116,116,112,58,47,47,104],1,[60,98,62,99,60,47,98,62]⟩ = [60,108,105,62,60,97,32,104,114,101,102,61,34,104,116,116,112,58,47,47,104,34,62,97,38,108,116,59,98,60,47,97,62,32,49,57,55,48,45,48,49,45,48,49,84,48,48,58,48,48,58,48,49,90,60,112,62,99,60,47,112,62,60,47,108,105,62]:=by decide +kernel
end Fd

/- Contracts of strings.Builder where it is the first field of a struct of its own; what lies beside it stays. Condition: the text that is gathered is of at most 2^47 bytes. -/
namespace Go.Proofs.YtjonkbdldebkiaaGreatDoor
open Go.RowKit
/-- a struct of type T is a builder and nothing else. -/
structure Bd (T : TypeId) : Prop where
 lies : liesAt Tryz.prog Tryz.prog.depth T (2 / Tryz.prog.cellsOf T) 0 96 1 = true
 ne : T ≠ 5
/-- below N all is as it was, but block b; and whatever is no row of bytes, wherever it lies. -/
structure Bes (N b : Nat) (w w' : World) : Prop where
 os : w'.os = w.os
 tape : w'.tape = w.tape
 output : w'.output = w.output
 size : w.heap.size≤w'.heap.size
 block : ∀ k,k < N→k ≠ b→w'.heap[k]? = w.heap[k]?
 oth : ∀ x cs T fr,x ≠ b→w.heap[x]? = some (.cells cs T fr)→T ≠ 5→w'.heap[x]? = w.heap[x]?
theorem Bes.refl (N b : Nat) (w : World) : Bes N b w w:=⟨rfl,rfl,rfl,Nat.le_refl _,fun _ _ _=>rfl,fun _ _ _ _ _ _ _=>rfl⟩
theorem Bes.trans {N b : Nat} {w1 w2 w3 : World} (h : Bes N b w1 w2) (k : Bes N b w2 w3) : Bes N b w1 w3 :=
 ⟨k.os.trans h.os,k.tape.trans h.tape,k.output.trans h.output,Nat.le_trans h.size k.size,fun i hi hb=>(k.block i hi hb).trans (h.block i hi hb),fun x cs T fr h1 h2 h3=>(k.oth x cs T fr h1 ((h.oth x cs T fr h1 h2 h3).trans h2) h3).trans (h.oth x cs T fr h1 h2 h3)⟩
theorem Bes.of {N b : Nat} {w w' : World} (h : Below w.heap.size w w') (hN : N≤w.heap.size) : Bes N b w w' :=
 ⟨h.os,h.tape,h.output,h.size,fun k hk _=>h.block k (Nat.lt_of_lt_of_le hk hN),fun x _ _ _ _ h2 _=>h.block x (Array.getElem?_eq_some_iff.1 h2).1⟩
theorem Bes.below {N b B : Nat} {w w' : World} (h : Bes N b w w') (hb : B≤b) (hN : B≤N) : Below B w w':=⟨h.os,h.tape,h.output,h.size,fun k hk=>h.block k (by omega) (by omega)⟩
theorem Bes.setCell {N b : Nat} {a w : World} (h : Bes N b a w) {p : Addr} (hp : p.block = b) (u : Value) : Bes N b a (w.setCell p u) :=
 h.trans ⟨rfl,rfl,rfl,by simp [World.setCell],fun k _ hk=>Below.heap_setCell _ _ _ _ (by omega),fun x _ _ _ hx _ _=>Below.heap_setCell _ _ _ _ (by omega)⟩
theorem Bes.alloc {N b : Nat} {a w : World} (h : Bes N b a w) (hN : N≤w.heap.size) (o : Obj) : Bes N b a (w.alloc o):=h.trans (Bes.of ((Below.refl _ w).alloc (Nat.le_refl _) o) hN)
theorem Bes.drew {N b : Nat} {a w : World} (h : Bes N b a w) : Bes N b a w.drew:=⟨h.os,h.tape,h.output,h.size,h.block,h.oth⟩
theorem Bes.grown {N b : Nat} {a w w' : World} {v : Value} {n : Nat} {xs : List Value} (h : Bes N b a w) (ho : w.ownsRow N 5 1 v n xs) (hg : w.grownBy w' v.ownBlock) (hN : N≤w.heap.size) : Bes N b a w':=by
 refine h.trans ⟨hg.os,hg.tape,hg.output,hg.size,fun k hk _=>hg.block k (by omega) (fun e=>?_),fun x cs T fr _ h2 h3=>hg.block x (Array.getElem?_eq_some_iff.1 h2).1 (fun e=>Lib.ownBlock_ne ho h2 h3 e.symm)⟩
 have:=(ho.lt k e.symm).1
 omega
/-- a builder in block b, of type T; its row lies from N on. -/
def BdA (T : TypeId) (N b : Nat) (p : Value) (bs : List Value) (w : World) : Prop :=
 ∃ v,w.heap[b]? = some (.cells #[p,v] T (0,0))∧w.ownsRow N 5 1 v bs.length bs∧v.ownBlock ≠ some b
def BdI (T : TypeId) (N b : Nat) (bs : List Value) (w : World) : Prop:=BdA T N b (.pointer none) bs w ∨ BdA T N b (.pointer (some ⟨b,0,none⟩)) bs w
theorem BdA.lt {T : TypeId} {N b : Nat} {p : Value} {bs : List Value} {w : World} (h : BdA T N b p bs w) : b < w.heap.size:=by
 obtain ⟨v,hb,_⟩:=h
 exact (Array.getElem?_eq_some_iff.1 hb).1
theorem BdI.lt {T : TypeId} {N b : Nat} {bs : List Value} {w : World} (h : BdI T N b bs w) : b < w.heap.size:=h.elim BdA.lt BdA.lt
/-- what a call leaves that turns neither the builder nor its row. -/
theorem BdI.below {T : TypeId} {N b : Nat} {bs : List Value} {w w' : World} (h : BdI T N b bs w) (hb : Below w.heap.size w w') : BdI T N b bs w':=by
 have key : ∀ p,BdA T N b p bs w→BdA T N b p bs w':=by
  rintro p ⟨v,h1,h2,h3⟩
  exact ⟨v,(hb.block b (Array.getElem?_eq_some_iff.1 h1).1).trans h1,h2.kept (row:=none) ⟨hb.os,hb.tape,hb.output,hb.size,fun k hk _=>hb.block k hk⟩ (Classical.em _),h3⟩
 exact h.imp (key _) (key _)
theorem BdI.new (T : TypeId) (N : Nat) (w : World) : BdI T N w.heap.size [] (w.alloc (.cells #[.pointer none,.slice none 0 0] T)) :=
 .inl ⟨.slice none 0 0,heap_alloc_new w _,World.ownsRow_nil _ _ _ _,by simp [Value.ownBlock]⟩
theorem BdA.put {T : TypeId} {N b : Nat} {p v v' : Value} {bs' : List Value} {w : World} (hb : w.heap[b]? = some (.cells #[p,v] T (0,0))) (hown : w.ownsRow N 5 1 v' bs'.length bs') (hTe : T ≠ 5) :
  BdA T N b p bs' (w.setCell ⟨b,1,none⟩ v'):=by
 have hne:=Lib.ownBlock_ne hown hb hTe
 refine ⟨v',?_,?_,hne⟩
 ·simp [World.setCell,Array.getElem?_modify,hb]
 ·exact hown.kept (row:=some b) ⟨rfl,rfl,rfl,by simp [World.setCell],fun k _ hk=>Below.heap_setCell _ _ _ _ (fun e=>hk (by simp [e]))⟩ (Or.inr hne)
set_option maxHeartbeats 1000000 in
set_option maxRecDepth 100000 in
theorem wb_fresh (T : TypeId) (hT : Bd T) (b : Nat) (w : World) (h0 : w.cell? ⟨b,0,none⟩ = some (.pointer none)) (hsh : w.shape? b = some (T,2)) (hfz : w.frozen? ⟨b,0,none⟩ = false) :
  Calls Tryz.prog 153 #[.pointer (some ⟨b,0,none⟩)] w fun e w'=>e = .returned (.tuple #[])∧w' = w.setCell ⟨b,0,none⟩ (.pointer (some ⟨b,0,none⟩)):=by
 obtain ⟨j,hj,hjs⟩:=Option.map_eq_some_iff.1 Tryz.sizeBuilder
 go_enter Tryz.func153,Tryz.ntmps153
 go_wp2
 rw [Lib.run_to_unsafe w ⟨b,0,none⟩ Tryz.underlying93 Tryz.underlying243 hj (by rw [hjs];decide) hsh (Nat.zero_lt_succ 1)]
 simp only [Result.andThen]
 rw [Oper.upon_value]
 go_wp2
 rw [run_callFunc_extern Tryz.func202 (by kernel_rfl) (by kernel_rfl) (by kernel_rfl) (e:=Extern.AbiNoEscape.same) (by kernel_rfl)]
 rw [Lib.run_noEscape]
 simp only [Result.andThen]
 rw [Oper.upon_value]
 go_wp2
 rw [Lib.run_from_unsafe w ⟨b,0,none⟩ Tryz.underlying243 Tryz.underlying93 hj hsh hT.lies]
 simp only [Result.andThen]
 rw [Oper.upon_value]
 go_wp2
 go_end0
 exact ⟨rfl,rfl⟩

theorem wb_copyCheck (T : TypeId) (hT : Bd T) (N b : Nat) (bs : List Value) (w : World) (h : BdI T N b bs w) :
  Calls Tryz.prog 153 #[.pointer (some ⟨b,0,none⟩)] w fun e w'=>e = .returned (.tuple #[])∧(BdA T N b (.pointer (some ⟨b,0,none⟩)) bs w'∧Bes N b w w'):=by
 rcases h with h | h
 ·obtain ⟨v,hb,hown,hne⟩:=h
  refine (wb_fresh T hT b w (by rw [Lib.cell_of_heap hb];rfl) (by simp [World.shape?,hb]) (Lib.frozen_of_heap hb 0)).mono ?_
  rintro e w' ⟨rfl,rfl⟩
  refine ⟨rfl,⟨v,?_,?_,hne⟩,(Bes.refl N b w).setCell rfl _⟩
  ·simp [World.setCell,Array.getElem?_modify,hb]
  ·exact hown.kept (row:=some b) ⟨rfl,rfl,rfl,by simp [World.setCell],fun k _ hk=>Below.heap_setCell _ _ _ _ (fun e=>hk (by simp [e]))⟩ (Or.inr hne)
 ·obtain ⟨v,hb,hown,hne⟩:=h
  refine (copyCheck_used b w (by rw [Lib.cell_of_heap hb];rfl)).mono ?_
  rintro e w' ⟨rfl,rfl⟩
  exact ⟨rfl,⟨v,hb,hown,hne⟩,Bes.refl N b _⟩

set_option maxHeartbeats 2000000 in
set_option maxRecDepth 100000 in
theorem wb_WriteString (T : TypeId) (hT : Bd T) (N b : Nat) (bs : List Value) (s : ByteArray) (w : World) (h : BdI T N b bs w) (hlen : bs.length + s.size≤140737488355328) (hBw : N≤w.heap.size) :
  Calls Tryz.prog 93 #[.pointer (some ⟨b,0,none⟩),.string s] w fun e w'=>e = .returned (.tuple #[.int .i64 s.size,.nilIface])∧(BdA T N b (.pointer (some ⟨b,0,none⟩)) (bs++Lib.strCells s) w'∧Bes N b w w'):=by
 obtain ⟨i0,hi,hz0,hz1,hz2⟩:=info_parts Tryz.infoByte
 have hTn:=hT.ne
 go_enter Tryz.func93,Tryz.ntmps93
 go_wp2_with (go_at_call 153;refine (wb_copyCheck T hT N b bs _ h).mono ?_)
 rintro e w1 ⟨rfl,h1,hb1⟩
 obtain ⟨v,hbk,hown,hne⟩:=h1
 have c0 : w1.cell? ⟨b,0,none⟩ = some (.pointer (some ⟨b,0,none⟩)):=by rw [Lib.cell_of_heap hbk];rfl
 have c1 : w1.cell? ⟨b,1,none⟩ = some v:=by rw [Lib.cell_of_heap hbk];rfl
 go_wp2_with (at_builtin;refine Lib.wpList_append_own_string _ rfl _ _ 94 9 rfl N 5 i0 Tryz.underlying94 Tryz.underlying9 hi hz0 hz1 hz2 _ _ _ rfl hown s rfl ?c3 ?c4 ?c5 ?_)
 case c3=>unfold maxLen;omega
 case c4=>omega
 case c5=>have:=hb1.size;omega
 intro v' w2 hown' hgrow _
 have hlt : b < w1.heap.size:=by
  rcases Nat.lt_or_ge b w1.heap.size with h' | h'
  ·exact h'
  ·simp [Array.getElem?_eq_none h'] at hbk
 have hb2 : w2.heap[b]? = some (.cells #[.pointer (some ⟨b,0,none⟩),v] T (0,0)):=by
  rw [hgrow.block b hlt (fun e=>hne e.symm)]
  exact hbk
 have d0 : w2.cell? ⟨b,0,none⟩ = some (.pointer (some ⟨b,0,none⟩)):=by rw [Lib.cell_of_heap hb2];rfl
 have d1 : w2.cell? ⟨b,1,none⟩ = some v:=by rw [Lib.cell_of_heap hb2];rfl
 have f1 : w2.frozen? ⟨b,1,none⟩ = false:=Lib.frozen_of_heap hb2 1
 obtain ⟨ao,n',cap,rfl⟩ : ∃ ao n' cap,v' = .slice ao n' cap:=by
  rcases hown'.2 with ⟨hv,_⟩ | ⟨g,cap,cur,hv,_⟩
  ·exact ⟨_,_,_,hv⟩
  ·exact ⟨_,_,_,hv⟩
 go_wp2
 go_ret2
 refine ⟨rfl,?_,?_⟩
 ·exact BdA.put (T:=T) hb2 (bs':=bs++Lib.strCells s) (by simpa [Lib.strCells_length] using hown') hTn
 ·exact (hb1.grown hown hgrow (by have:=hb1.size;omega)).setCell (p:=⟨b,1,none⟩) rfl _

set_option maxHeartbeats 2000000 in
set_option maxRecDepth 100000 in
theorem wb_WriteByte (T : TypeId) (hT : Bd T) (N b : Nat) (bs : List Value) (c : Int) (w : World) (h : BdI T N b bs w) (hlen : bs.length + 1≤140737488355328) (hBw : N≤w.heap.size) :
  Calls Tryz.prog 206 #[.pointer (some ⟨b,0,none⟩),.int .u8 c] w fun e w'=>e = .returned .nilIface∧(BdA T N b (.pointer (some ⟨b,0,none⟩)) (bs++[.int .u8 c]) w'∧Bes N b w w'):=by
 obtain ⟨i0,hi,hz0,hz1,hz2⟩:=info_parts Tryz.infoByte
 have hTn:=hT.ne
 go_enter Tryz.func206,Tryz.ntmps206
 go_wp2_with (go_at_call 153;refine (wb_copyCheck T hT N b bs _ h).mono ?_)
 rintro e w1 ⟨rfl,h1,hb1⟩
 obtain ⟨v,hbk,hown,hne⟩:=h1
 have c0 : w1.cell? ⟨b,0,none⟩ = some (.pointer (some ⟨b,0,none⟩)):=by rw [Lib.cell_of_heap hbk];rfl
 have c1 : w1.cell? ⟨b,1,none⟩ = some v:=by rw [Lib.cell_of_heap hbk];rfl
 go_wp2_with (at_builtin;refine wpList_append_own _ rfl _ _ 94 rfl N 5 i0 (.int .u8 0) 1 1 Tryz.underlying94 hi hz0 hz1 hz2 rfl (by decide) _ _ _ rfl (hown.alloc _) ⟨w1.heap.size,0,none⟩ 1 1 [.int .u8 c] rfl rfl ?c1 ?c2 ?c3 ?c4 ?c5 ?_)
 case c1 =>
  intro j u hj
  match j,hj with
  | 0,hj=>simp at hj;subst hj;simp [Addr.add]
 case c2=>intro u hu;simp at hu;subst hu;rfl
 case c3=>unfold maxLen;omega
 case c4=>omega
 case c5=>have:=hb1.size;simp;omega
 intro v' w2 hown' hgrow _
 have hlt : b < w1.heap.size:=by
  rcases Nat.lt_or_ge b w1.heap.size with h' | h'
  ·exact h'
  ·simp [Array.getElem?_eq_none h'] at hbk
 have hb2 : w2.heap[b]? = some (.cells #[.pointer (some ⟨b,0,none⟩),v] T (0,0)):=by
  rw [hgrow.block b (by simp;omega) (fun e=>hne e.symm),Lib.alloc_old w1 _ b hlt]
  exact hbk
 have d0 : w2.cell? ⟨b,0,none⟩ = some (.pointer (some ⟨b,0,none⟩)):=by rw [Lib.cell_of_heap hb2];rfl
 have d1 : w2.cell? ⟨b,1,none⟩ = some v:=by rw [Lib.cell_of_heap hb2];rfl
 have f1 : w2.frozen? ⟨b,1,none⟩ = false:=Lib.frozen_of_heap hb2 1
 obtain ⟨g,cap,rfl⟩ : ∃ g cap,v' = .slice (some ⟨g,0,none⟩) (bs.length + 1) cap:=by
  rcases hown'.2 with ⟨_,h0⟩ | ⟨g,cap,cur,hv,_⟩
  ·omega
  ·exact ⟨g,cap,hv⟩
 go_wp2
 go_ret
 refine ⟨rfl,?_,?_⟩
 ·exact BdA.put (T:=T) hb2 (bs':=bs++[.int .u8 c]) (by simpa using hown') hTn
 ·exact ((hb1.alloc (by have:=hb1.size;omega) _).grown (hown.alloc _) hgrow (by have:=hb1.size;simp;omega)).setCell (p:=⟨b,1,none⟩) rfl _

set_option maxHeartbeats 1000000 in
set_option maxRecDepth 100000 in
theorem wb_String (T : TypeId) (N b : Nat) (l : List UInt8) (w : World) (h : BdI T N b (Lib.byteCells l) w) (hBw : N≤w.heap.size) :
  Calls Tryz.prog 51 #[.pointer (some ⟨b,0,none⟩)] w fun e w'=>e = .returned (.string (st l))∧Below N w w':=by
 obtain ⟨p,v,hbk,hown,hne⟩ : ∃ p,BdA T N b p (Lib.byteCells l) w:=by
  rcases h with h | h
  ·exact ⟨_,h⟩
  ·exact ⟨_,h⟩
 have hc : Tryz.prog.cellsOf 5 = 1:=by kernel_rfl
 have mixed : Tryz.prog.follows Departure.mixedOrders = true:=by kernel_rfl
 rw [Lib.byteCells_length] at hown
 have hD : ∀ u,v = u→w.drew.cell? ⟨b,1,none⟩ = some u:=by
  rintro u rfl
  have : w.drew.heap[b]? = some (.cells #[p,v] T (0,0)):=hbk
  rw [Lib.cell_of_heap this];rfl
 by_cases h0 : l = []
 ·subst h0
  have hUS : ∀ (W : World) (q : Option Addr),(Builtin.unsafeString_ #[151,3] 9 #[.pointer q,.int .i64 0]).run Tryz.prog W = .ok (.string .empty) W:=fun W q=>Lib.run_unsafeString_none W _ _ _ q
  rcases hown.2 with ⟨rfl,_⟩ | ⟨g,cap,cur,rfl,hbg,hg,hnc,hcm,hcs,htake⟩
  ·have c1:=hD _ rfl
   have hSD : (Builtin.unsafeSliceData_ #[94] 151 #[.slice none 0 0]).run Tryz.prog w.drew = .ok (.pointer none) w.drew:=rfl
   clear hD hown
   go_enter Tryz.func51,Tryz.ntmps51
   go_wp2
   go_region_o
   all_goals (go_wp2;go_ret;exact ⟨rfl,Below.drew (Below.refl N w)⟩)
  ·have c1:=hD _ rfl
   by_cases hc0 : cap = 0
   ·subst hc0
    have hlt : b < w.heap.size:=by
     rcases Nat.lt_or_ge b w.heap.size with h' | h'
     ·exact h'
     ·simp [Array.getElem?_eq_none h'] at hbk
    have hSD : (Builtin.unsafeSliceData_ #[94] 151 #[.slice (some ⟨g,0,none⟩) 0 0]).run Tryz.prog w.drew = .ok (.pointer (some ⟨w.drew.heap.size,0,none⟩)) (w.drew.alloc (.view ⟨g,0,none⟩ 5)) :=
     Lib.run_unsafeSliceData_zero w.drew _ _ 5 Tryz.underlying151 ⟨g,0,none⟩ 0 (5,cur.size) (by have hg' : w.drew.heap[g]? = some (.cells cur 5 (0,0)):=hg;simp [World.shape?,hg'])
    have c1 : w.drew.cell? ⟨b,1,none⟩ = some (.slice (some ⟨g,0,none⟩) 0 0):=c1
    have c2 : (w.drew.alloc (.view ⟨g,0,none⟩ 5)).cell? ⟨b,1,none⟩ = some (.slice (some ⟨g,0,none⟩) 0 0):=by
     have : (w.drew.alloc (.view ⟨g,0,none⟩ 5)).heap[b]? = _:=(Lib.alloc_old w.drew _ b hlt).trans hbk
     rw [Lib.cell_of_heap this];rfl
    have c3 : (w.alloc (.view ⟨g,0,none⟩ 5)).drew.cell? ⟨b,1,none⟩ = some (.slice (some ⟨g,0,none⟩) 0 0):=c2
    have c0 : w.cell? ⟨b,1,none⟩ = some (.slice (some ⟨g,0,none⟩) 0 0):=c1
    clear hD hown
    go_enter Tryz.func51,Tryz.ntmps51
    go_wp2
    go_region_o
    all_goals (go_wp2;go_ret;exact ⟨rfl,(Below.drew (Below.refl N w)).alloc hBw _⟩)
   ·have hSD : (Builtin.unsafeSliceData_ #[94] 151 #[.slice (some ⟨g,0,none⟩) 0 cap]).run Tryz.prog w.drew = .ok (.pointer (some ⟨g,0,none⟩)) w.drew :=
     Lib.run_unsafeSliceData_row _ _ _ _ _ _ hc0
    have c1 : w.drew.cell? ⟨b,1,none⟩ = some (.slice (some ⟨g,0,none⟩) 0 cap):=c1
    clear hc0 hD hown
    go_enter Tryz.func51,Tryz.ntmps51
    go_wp2
    go_region_o
    all_goals (go_wp2;go_ret;exact ⟨rfl,Below.drew (Below.refl N w)⟩)
 ·have hl0 : l.length ≠ 0:=by simpa using h0
  obtain ⟨g,cap,cur,rfl,hbg,hg,hnc,hcm,hcs,htake⟩ : ∃ g cap cur,v = .slice (some ⟨g,0,none⟩) l.length cap∧N≤g∧w.heap[g]? = some (.cells cur 5 (0,0))∧l.length≤cap∧cap≤maxLen∧cur.size = cap * 1∧cur.toList.take (l.length * 1) = Lib.byteCells l:=by
   rcases hown.2 with ⟨_,hz⟩ | ⟨g,cap,cur,hv,r⟩
   ·exact absurd hz hl0
   ·exact ⟨g,cap,cur,hv,r⟩
  have c1:=hD _ rfl
  have hSD : (Builtin.unsafeSliceData_ #[94] 151 #[.slice (some ⟨g,0,none⟩) l.length cap]).run Tryz.prog w.drew = .ok (.pointer (some ⟨g,0,none⟩)) w.drew :=
   Lib.run_unsafeSliceData_row _ _ _ _ _ _ (by omega)
  have hUS : (Builtin.unsafeString_ #[151,3] 9 #[.pointer (some ⟨g,0,none⟩),.int .i64 l.length]).run Tryz.prog w.drew = .ok (.string ⟨l.toArray⟩) (w.drew.freeze ⟨g,0,none⟩ l.length):=by
   refine Lib.run_unsafeString_row w.drew 151 3 9 5 Tryz.underlying151 hc g cur.size (by have hg' : w.drew.heap[g]? = some (.cells cur 5 (0,0)):=hg;simp [World.shape?,hg']) l h0 (by omega) (by unfold maxLen at hcm;omega) ?_
   intro j x hx
   have:=hown.cells (g:=g) rfl j (.int .u8 x.toNat) (by simp [Lib.byteCells,hx])
   exact this
  clear hD
  go_enter Tryz.func51,Tryz.ntmps51
  go_wp2
  go_region_o
  all_goals (go_wp2;go_ret;exact ⟨rfl,Lib.below_freeze (Below.drew (Below.refl N w)) (p:=⟨g,0,none⟩) hbg _⟩)
end Go.Proofs.YtjonkbdldebkiaaGreatDoor

/- Contracts of the program's apart and of the teller's method node: all texts in a node, with blanks where elements stand apart. Condition: at most 1099511627776 letters. -/
namespace Go.Proofs.YtjonkbdldebkiaaGreatDoor
open Go.RowKit
def apartL : List (List UInt8):=[[112],[108,105],[98,108,111,99,107,113,117,111,116,101],[117,108],[111,108]]
theorem apart_is (n : List UInt8) : Lib.containsS ((apartL.map st).take 5) (st n) = Fd.apartB n:=by
 rw [List.take_of_length_le (by decide)]
 rw [Bool.eq_iff_iff,Lib.containsS_iff,show Fd.apartB n = apartL.contains n from rfl,List.contains_iff_mem,List.mem_map]
 constructor
 ·rintro ⟨x,h1,h2⟩
  have : x = n:=by have:=congrArg (fun b : ByteArray=>b.data.toList) h2;exact this
  rw [← this];exact h1
 ·intro h
  exact ⟨n,h,rfl⟩
set_option maxHeartbeats 1000000 in
theorem fi_apart (n : List UInt8) (w : World) :
  Calls Tryz.prog 207 #[.string (st n)] w fun e w'=>e = .returned (.bool (Fd.apartB n))∧Below w.heap.size w w':=by
 go_enter Tryz.func207,Tryz.ntmps207
 go_wp2_with fail
 have hal:=(Below.refl w.heap.size w).alloc (Nat.le_refl _) (.cells ((apartL.map fun x=>Value.string (st x)).toArray) 9)
 have hc:=Tryz.slices_Contains_string w.heap.size 0 5 5 (apartL.map st) (st n) (w.alloc (.cells ((apartL.map fun x=>Value.string (st x)).toArray) 9)) (by decide) (by decide) (fun j hj=>by
  have hj' : j < 5:=hj
  rw [Nat.zero_add,Blk.cell (Blk.new w 9 ((apartL.map fun x=>Value.string (st x)).toArray)) j]
  rcases (by omega : j = 0 ∨ j = 1 ∨ j = 2 ∨ j = 3 ∨ j = 4) with h | h | h | h | h <;> subst h <;> rfl)
 rw [apart_is] at hc
 refine hc.mono ?_
 rintro e w1 ⟨rfl,hw1⟩
 subst w1
 go_wp2_with fail
 go_ret
 exact ⟨rfl,hal⟩
theorem bd_teller : Bd 205:=⟨by kernel_rfl,by decide⟩
theorem byte_str (l s : List UInt8) : Lib.byteCells l++Lib.strCells (st s) = Lib.byteCells (l++s):=by
 rw [Lib.byteCells_append];rfl
set_option maxHeartbeats 1000000 in
theorem nd_blank (is : Bool) (P N b : Nat) (l : List UInt8) (w : World) (hP : w.cell? ⟨P,0,none⟩ = some (.pointer (some ⟨b,0,none⟩))) (hN : N≤w.heap.size) (hB : BdI 205 N b (Lib.byteCells l) w) (hl : l.length≤2199023255552) :
  Calls Tryz.prog 205 #[.bool is,.pointer (some ⟨P,0,none⟩)] w fun e w'=>e = .returned (.tuple #[])∧BdI 205 N b (Lib.byteCells (l++if is then [32] else [])) w'∧Bes N b w w':=by
 cases is with
 | false =>
  go_enter Tryz.func205,Tryz.ntmps205
  go_wp2_with fail
  go_end0
  exact ⟨rfl,hB,Bes.refl _ _ _⟩
 | true =>
  have HW:=Lib.hid (wb_WriteByte 205 bd_teller N b (Lib.byteCells l) 32 w hB (by rw [Lib.byteCells_length];omega) hN)
  have hb:=hB.lt
  clear hB hl
  go_enter Tryz.func205,Tryz.ntmps205
  go_wp2_with fail
  refine HW.out.mono ?_
  rintro e w1 ⟨rfl,hb1,hs1⟩
  have R1:=Lib.hid hb1
  have R2:=Lib.hid hs1
  clear hb1 hs1 HW
  go_wp2_with fail
  go_end0
  exact ⟨rfl,by rw [Lib.byteCells_append];exact .inr R1.out,R2.out⟩
/-- what node does. -/
def NodeC (n : List UInt8) (a : List Mk.At) (t : List UInt8) (k : Mk.Fo) : Prop:=∀ (va vk : Value) (K : Nat→Prop) (N b : Nat) (l : List UInt8) (w : World),AtsV w K va a→FoV w K vk k→(∀ x,K x→x < N∧x ≠ b)→N≤w.heap.size→BdI 205 N b (Lib.byteCells l) w→l.length + (Fd.tellOne n t k).length≤1099511627776 →
 Calls Tryz.prog 155 #[.pointer (some ⟨b,0,none⟩),.agg #[.string (st n),va,.string (st t),vk]] w fun e w'=>e = .returned (.tuple #[])∧BdI 205 N b (Lib.byteCells (l++Fd.tellOne n t k)) w'∧Bes N b w w'
theorem Bes.blk {N b g : Nat} {w w' : World} {T : TypeId} {cs : Array Value} (h : Bes N b w w') (hb : Blk w g T cs) (hg : g ≠ b) (hT : T ≠ 5) : Blk w' g T cs:=(h.oth g cs T (0,0) hg hb hT).trans hb
set_option maxHeartbeats 16000000 in
set_option maxRecDepth 100000 in
theorem nd_node (M : Nat) : ∀ (n : List UInt8) (a : List Mk.At) (t : List UInt8) (k : Mk.Fo),k.bulk < M→NodeC n a t k:=by
 induction M with
 | zero=>intro n a t k h;omega
 | succ M ih =>
  intro n a t k hM va vk K N b l w hva hvk hK hN hB hl
  have hbl:=hB.lt
  have HTL : Hid ((Fd.tellOne n t k).length = t.length + ((if Mk.emptyB n || Fd.apartB n then [32] else ([] : List UInt8)).length + ((Fd.tellF k).length + (if Fd.apartB n then [32] else ([] : List UInt8)).length))):=by
   show _ = _
   unfold Fd.tellOne
   simp only [List.length_append]
  have htl : l.length + t.length + (Fd.tellF k).length≤1099511627776:=by have:=HTL.out;omega
  have HL0 : Hid ((l++t++if Mk.emptyB n || Fd.apartB n then [32] else []).length + (Fd.tellF k).length + (if Fd.apartB n then [32] else ([] : List UInt8)).length≤1099511627776):=by show _≤_;have:=HTL.out;rw [List.length_append,List.length_append];omega
  have HTO : Hid (l++Fd.tellOne n t k = (l++t++if Mk.emptyB n || Fd.apartB n then [32] else [])++Fd.tellF k++if Fd.apartB n then [32] else []):=by show _ = _;unfold Fd.tellOne;simp only [List.append_assoc]
  clear HTL hl
  obtain ⟨gm,o,cap,hv1,hlen,hat⟩:=hvk.at_
  obtain ⟨aoa,capa,hva1,_⟩:=id hva
  subst hva1
  obtain ⟨aok,capk,hvs⟩ : ∃ ao cp,vk = .slice ao k.len cp:=by
   rcases hv1 with ⟨q,_⟩ | ⟨ao,q,q2⟩
   ·exact ⟨_,_,q⟩
   ·subst q2;exact ⟨_,_,q⟩
  subst hvs
  have HV1:=Lib.hid hv1
  have HAT:=Lib.hid hat
  have hal1:=(Below.refl w.heap.size w).alloc (Nat.le_refl _) (.cells #[.pointer (some ⟨b,0,none⟩)] 204)
  have hal2:=hal1.alloc hal1.size (.cells #[.string (st n),.slice aoa a.length capa,.string (st t),.slice aok k.len capk] 53)
  have PB:=Lib.hid (Blk.alloc (Blk.new w 204 #[.pointer (some ⟨b,0,none⟩)]) (.cells #[.string (st n),.slice aoa a.length capa,.string (st t),.slice aok k.len capk] 53))
  have QB0:=(Blk.new (w.alloc (.cells #[.pointer (some ⟨b,0,none⟩)] 204)) 53 #[.string (st n),.slice aoa a.length capa,.string (st t),.slice aok k.len capk])
  rw [World.size_alloc] at QB0
  have QB:=Lib.hid QB0
  clear QB0
  have BS1 : Hid (Bes N b w ((w.alloc (.cells #[.pointer (some ⟨b,0,none⟩)] 204)).alloc (.cells #[.string (st n),.slice aoa a.length capa,.string (st t),.slice aok k.len capk] 53))):=Bes.of hal2 hN
  have BD1:=Lib.hid (hB.below hal2)
  have hN1 : N≤((w.alloc (.cells #[.pointer (some ⟨b,0,none⟩)] 204)).alloc (.cells #[.string (st n),.slice aoa a.length capa,.string (st t),.slice aok k.len capk] 53)).heap.size:=Nat.le_trans hN hal2.size
  have hmf : ∀ (fn : Fn) (first cap : Array Value) (w : World),(Instr.makeFunc fn first cap).run Tryz.prog w = .ok (.func fn first cap) w:=fun _ _ _ _=>rfl
  have HK:=Lib.hid hK
  have HVK:=Lib.hid hvk
  have hPb : w.heap.size ≠ b:=by omega
  have hQb : w.heap.size + 1 ≠ b:=by omega
  clear hva hvk hK hB hv1 hat hal1 hal2
  go_enter Tryz.func155,Tryz.ntmps155
  go_upto_region 2 with fail
  generalize ((w.alloc (.cells #[.pointer (some ⟨b,0,none⟩)] 204)).alloc (.cells #[.string (st n),.slice aoa a.length capa,.string (st t),.slice aok k.len capk] 53)) = w1 at PB QB BS1 BD1 hN1 ⊢
  generalize w.heap.size = P at PB QB hPb hQb ⊢
  generalize P + 1 = Q at QB hQb ⊢
  have p0 : w1.cell? ⟨P,0,none⟩ = some (.pointer (some ⟨b,0,none⟩)):=Blk.cell PB.out 0
  have n0 : w1.cell? ⟨Q,0,none⟩ = some (.string (st n)):=Blk.cell QB.out 0
  have n2 : w1.cell? ⟨Q,2,none⟩ = some (.string (st t)):=Blk.cell QB.out 2
  have n3 : w1.cell? ⟨Q,3,none⟩ = some (.slice aok k.len capk):=Blk.cell QB.out 3
  have HFR : Hid (∀ W : World,Blk W P 204 #[.pointer (some ⟨b,0,none⟩)]→Blk W Q 53 #[.string (st n),.slice aoa a.length capa,.string (st t),.slice aok k.len capk]→W.cell? ⟨P,0,none⟩ = some (.pointer (some ⟨b,0,none⟩))∧W.cell? ⟨Q,2,none⟩ = some (.string (st t))):=fun W h1 h2=>⟨Blk.cell h1 0,Blk.cell h2 2⟩
  have HWS : Hid (∀ W,Below w1.heap.size w1 W→Calls Tryz.prog 93 #[.pointer (some ⟨b,0,none⟩),.string (st t)] W fun e w'=>∃ v,e = .returned v∧Hid (BdI 205 N b (Lib.byteCells (l++t)) w')∧Hid (Bes N b w1 w')):=by
   intro W hW
   refine (wb_WriteString 205 bd_teller N b (Lib.byteCells l) (st t) W (BD1.out.below hW) (by rw [Lib.byteCells_length,st_size];omega) (Nat.le_trans hN1 hW.size)).mono ?_
   rintro e w3 ⟨rfl,h1,h2⟩
   refine ⟨_,rfl,?_,(Bes.of hW hN1).trans h2⟩
   show BdI _ _ _ _ _
   rw [← byte_str]
   exact .inr h1
  go_cut [] (fun wx=>Hid (BdI 205 N b (Lib.byteCells (l++t)) wx)∧Hid (Bes N b w1 wx))
  case first =>
   clear n0 n3
   go_region_held3 (fun w'=>w'.cell? ⟨P,0,none⟩ = some (.pointer (some ⟨b,0,none⟩))∧w'.cell? ⟨Q,2,none⟩ = some (.string (st t))) (first
    | exact HFR.out _ PB.out QB.out
    | exact HFR.out _ (Bes.blk hs3.out PB.out hPb (by decide)) (Bes.blk hs3.out QB.out hQb (by decide))) (first | (go_at_call 93;refine (HWS.out _ (Below.refl _ _).drew).mono ?_;rintro e w3 ⟨v3,rfl,hb3,hs3⟩))
   all_goals
    go_wp2_with fail
    go_meet
    case rel=>exact ⟨hb3,hs3⟩
  case rest =>
  as_aux_lemma =>
  obtain ⟨BD2,BS2⟩:=hcut
  obtain ⟨w2,hw2⟩ : ∃ x,x = wc:=⟨_,rfl⟩
  subst hw2
  have PB2:=Lib.hid (BS2.out.blk PB.out hPb (by decide))
  have QB2:=Lib.hid (BS2.out.blk QB.out hQb (by decide))
  have hN2:=Nat.le_trans hN1 BS2.out.size
  have BW2:=Lib.hid (BS1.out.trans BS2.out)
  clear p0 n0 n2 n3 HFR HWS PB QB BS1 BS2 BD1 hN1
  have p0 : w2.cell? ⟨P,0,none⟩ = some (.pointer (some ⟨b,0,none⟩)):=Blk.cell PB2.out 0
  have n0 : w2.cell? ⟨Q,0,none⟩ = some (.string (st n)):=Blk.cell QB2.out 0
  have HE:=Lib.hid (tr_Empty n w2)
  have HA : Hid (∀ W,Calls Tryz.prog 207 #[.string (st n)] W fun e w'=>e = .returned (.bool (Fd.apartB n))∧Below W.heap.size W w'):=fun W=>fi_apart n W
  generalize Mk.emptyB n = be at HE HL0 HTO
  generalize Fd.apartB n = ba at HA HL0 HTO
  go_upto_region 3 with fail
  go_cut [] (fun wx=>Hid (BdI 205 N b (Lib.byteCells (l++t++if be || ba then [32] else [])) wx)∧Hid (Bes N b w2 wx))
  case first =>
   have P0:=Lib.hid p0
   cases be with
   | true =>
    go_wp2_with fail
    refine HE.out.mono ?_
    rintro e wx ⟨rfl,hwx⟩
    subst wx
    go_wp2_with fail
    refine (nd_blank true P N b (l++t) _ P0.out hN2 BD2.out (by rw [List.length_append];omega)).mono ?_
    rintro e w3 ⟨rfl,h1,h2⟩
    have R1:=Lib.hid h1
    have R2:=Lib.hid h2
    clear h1 h2
    go_wp2_with fail
    go_meet
    case rel=>exact ⟨R1,R2⟩
   | false =>
    go_wp2_with fail
    refine HE.out.mono ?_
    rintro e wx ⟨rfl,hwx⟩
    subst wx
    go_wp2_with fail
    refine (HA.out _).mono ?_
    rintro e w3 ⟨rfl,hb3⟩
    have P3 : w3.cell? ⟨P,0,none⟩ = some (.pointer (some ⟨b,0,none⟩)):=(hb3.cell (p:=⟨P,0,none⟩) (Blk.lt PB2.out)).trans P0.out
    have HB3:=Lib.hid hb3
    have BD3:=Lib.hid (BD2.out.below hb3)
    have PP3:=Lib.hid P3
    clear hb3 P3
    go_wp2_with fail
    refine (nd_blank ba P N b (l++t) _ PP3.out (Nat.le_trans hN2 HB3.out.size) BD3.out (by rw [List.length_append];omega)).mono ?_
    rintro e w4 ⟨rfl,h1,h2⟩
    have R1:=Lib.hid h1
    have R2:=Lib.hid ((Bes.of HB3.out hN2).trans h2)
    clear h1 h2
    go_wp2_with fail
    go_meet
    case rel=>exact ⟨R1,R2⟩
  case rest =>
  as_aux_lemma =>
  obtain ⟨BD3,BS3⟩:=hcut
  obtain ⟨w3,hw3⟩ : ∃ x,x = wc:=⟨_,rfl⟩
  subst hw3
  have PB3:=Lib.hid (BS3.out.blk PB2.out hPb (by decide))
  have QB3:=Lib.hid (BS3.out.blk QB2.out hQb (by decide))
  have BW3:=Lib.hid (BW2.out.trans BS3.out)
  clear p0 n0 HE PB2 QB2 BS3 BW2 BD2 hN2
  have n3 : w3.cell? ⟨Q,3,none⟩ = some (.slice aok k.len capk):=Blk.cell QB3.out 3
  generalize (l++t++if be || ba then [32] else []) = L0 at BD3 HL0 HTO
  have hkl : k.len≤9223372036854775807:=by unfold maxLen at hlen;omega
  go_wp2_with fail
  go_loopw [27] (fun i wr=>∃ (j : Nat) (L : List UInt8),j≤k.len∧i = .int .i64 j∧Hid (L++Fd.tellF (k.drop j) = L0++Fd.tellF k)∧Hid (BdI 205 N b (Lib.byteCells L) wr)∧Hid (Bes N b w wr)∧Hid (Blk wr P 204 #[.pointer (some ⟨b,0,none⟩)])∧Hid (Blk wr Q 53 #[.string (st n),.slice aoa a.length capa,.string (st t),.slice aok k.len capk])) (fun i _=>k.len - (intOf i).toNat)
  case atStart=>exact ⟨0,L0,Nat.zero_le _,rfl,by show _ = _;rw [Mk.Fo.drop_zero],BD3,BW3,PB3,QB3⟩
  case round =>
   clear BD3 BW3 PB3 QB3 n3
   obtain ⟨j,L,hj,rfl,HL,BDr,BWr,PBr,QBr⟩:=hrel
   have hNr:=Nat.le_trans hN BWr.out.size
   by_cases hlt : j < k.len
   ·obtain ⟨hv1,hKg⟩ : Value.slice aok k.len capk = .slice (some ⟨gm,o,none⟩) k.len cap∧K gm:=by
     rcases HV1.out with q | ⟨ao,_,q⟩
     ·exact q
     ·subst q;exact absurd hlt (Nat.not_lt_zero _)
    injection hv1 with e1 _ e3
    subst e1;subst e3
    obtain ⟨n',a',t',kk,r,hd,hd1⟩:=Mk.Fo.drop_lt k j hlt
    obtain ⟨va',vk',c0,c1,c2,c3,hva',hvk'⟩:=HAT.out j n' a' t' kk r hd
    have hgm : wr.heap[gm]? = w.heap[gm]?:=BWr.out.block gm (HK.out gm hKg).1 (HK.out gm hKg).2
    rw [← cell_of_block hgm] at c0 c1 c2 c3
    obtain ⟨aoa',capa',hva1',_⟩:=id hva'
    obtain ⟨aok',capk',xsk',hvk1',_⟩:=id hvk'
    subst hva1'
    subst hvk1'
    have hdb : (k.drop j).bulk = 1 + n'.length + t'.length + Mk.Fo.atB a' + kk.bulk + r.bulk:=by rw [hd];rfl
    have hdb2:=Mk.Fo.drop_bulk k j
    have HIH:=Lib.hid (ih n' a' t' kk (by omega))
    have HL2 : Hid ((L++Fd.tellOne n' t' kk)++Fd.tellF (k.drop (j + 1)) = L0++Fd.tellF k):=by
     show _ = _
     have h:=HL.out
     rw [hd,Fd.tell_node] at h
     rw [hd1,List.append_assoc];exact h
    have hLL : L.length + (Fd.tellOne n' t' kk).length≤1099511627776:=by
     have h:=congrArg List.length HL2.out
     have h0:=HL0.out
     simp only [List.length_append] at h
     omega
    have hal:=(Below.refl wr.heap.size wr).alloc (Nat.le_refl _) (.cells #[.string (st n'),.slice aoa' a'.length capa',.string (st t'),.slice aok' kk.len capk'] 53)
    have RB:=Lib.hid (Blk.new wr 53 #[.string (st n'),.slice aoa' a'.length capa',.string (st t'),.slice aok' kk.len capk'])
    have BD4:=Lib.hid (BDr.out.below hal)
    have BS4 : Hid (Bes N b wr (wr.alloc (.cells #[.string (st n'),.slice aoa' a'.length capa',.string (st t'),.slice aok' kk.len capk'] 53))):=Bes.of hal hNr
    have HVA : Hid (AtsV _ K (.slice aoa' a'.length capa') a'):=hva'.frame (fun x q=>⟨q,(BWr.out.trans BS4.out).block x (HK.out x q).1 (HK.out x q).2⟩)
    have HVK2 : Hid (FoV _ K (.slice aok' kk.len capk') kk):=hvk'.frame (fun x q=>⟨q,(BWr.out.trans BS4.out).block x (HK.out x q).1 (HK.out x q).2⟩)
    have PB4:=Lib.hid (BS4.out.blk PBr.out hPb (by decide))
    have QB4:=Lib.hid (BS4.out.blk QBr.out hQb (by decide))
    have BW4:=Lib.hid (BWr.out.trans BS4.out)
    have hN4:=Nat.le_trans hNr BS4.out.size
    clear hd hd1 hva' hvk' hal hdb hdb2 HL hgm BS4 BWr BDr PBr QBr
    go_upto_region 7 with fail
    clear c0 c1 c2 c3
    generalize wr.alloc (.cells #[.string (st n'),.slice aoa' a'.length capa',.string (st t'),.slice aok' kk.len capk'] 53) = w4 at RB BD4 HVA HVK2 PB4 QB4 BW4 hN4 ⊢
    generalize wr.heap.size = R at RB ⊢
    have r0 : w4.cell? ⟨R,0,none⟩ = some (.string (st n')):=Blk.cell RB.out 0
    have r1 : w4.cell? ⟨R,1,none⟩ = some (.slice aoa' a'.length capa'):=Blk.cell RB.out 1
    have r2 : w4.cell? ⟨R,2,none⟩ = some (.string (st t')):=Blk.cell RB.out 2
    have r3 : w4.cell? ⟨R,3,none⟩ = some (.slice aok' kk.len capk'):=Blk.cell RB.out 3
    have p0 : w4.cell? ⟨P,0,none⟩ = some (.pointer (some ⟨b,0,none⟩)):=Blk.cell PB4.out 0
    go_wp2_with fail
    refine (HIH.out _ _ K N b L w4 HVA.out HVK2.out HK.out hN4 BD4.out hLL).mono ?_
    rintro e w5 ⟨rfl,h1,h2⟩
    have BD5:=Lib.hid h1
    have BW5:=Lib.hid (BW4.out.trans h2)
    have PB5:=Lib.hid (h2.blk PB4.out hPb (by decide))
    have QB5:=Lib.hid (h2.blk QB4.out hQb (by decide))
    clear h1 h2 r0 r1 r2 r3 p0
    go_wp2_with fail
    go_roundw
    case rel=>exact ⟨j + 1,_,by omega,by go_num,HL2,BD5,BW5,PB5,QB5⟩
    case measure=>simp [intOf];omega
   ·have hje : j = k.len:=by omega
    have HLE : Hid (L = L0++Fd.tellF k):=by
     show _ = _
     have h:=HL.out
     rw [hje,Mk.Fo.drop_len,show Fd.tellF Mk.Fo.nil = [] from rfl,List.append_nil] at h
     exact h
    have hLL : L.length≤1099511627776:=by
     have h0:=HL0.out
     rw [HLE.out,List.length_append];omega
    have n0 : wr.cell? ⟨Q,0,none⟩ = some (.string (st n)):=Blk.cell QBr.out 0
    clear hje HL
    go_wp2_with fail
    refine (HA.out _).mono ?_
    rintro e w3' ⟨rfl,hb3⟩
    have P3 : w3'.cell? ⟨P,0,none⟩ = some (.pointer (some ⟨b,0,none⟩)):=(hb3.cell (p:=⟨P,0,none⟩) (Blk.lt PBr.out)).trans (Blk.cell PBr.out 0)
    have HB3:=Lib.hid hb3
    have BD3':=Lib.hid (BDr.out.below hb3)
    have PP3:=Lib.hid P3
    clear hb3 P3 n0
    go_wp2_with fail
    refine (nd_blank ba P N b L _ PP3.out (Nat.le_trans hNr HB3.out.size) BD3'.out (by omega)).mono ?_
    rintro e w4 ⟨rfl,h1,h2⟩
    have R1:=Lib.hid h1
    have R2:=Lib.hid (BWr.out.trans ((Bes.of HB3.out hNr).trans h2))
    clear h1 h2
    go_wp2_with fail
    go_end0
    exact ⟨rfl,by rw [HTO.out,← HLE.out];exact R1.out,R2.out⟩
end Go.Proofs.YtjonkbdldebkiaaGreatDoor

/- Contract of the program's find.Told: words of markup. Condition: at most 3000 letters. -/
namespace Go.Proofs.YtjonkbdldebkiaaGreatDoor
open Go.RowKit
theorem eg_told1 (args : Array Value) (w : World) : (callFunc 157 args).run Tryz.prog w = .ok (.enter 157 args) w:=run_callFunc_enter' Tryz.func157 (by kernel_rfl) rfl _ _
set_option maxHeartbeats 1000000 in
theorem fi_told1 (x : Nat) (w : World) :
  Calls Tryz.prog 157 #[.int .i32 x] w fun e w'=>e = .returned (.bool (Fd.whiteR x))∧w' = w:=by
 by_cases h : x < 128
 ·have hW:=mk_White (UInt8.ofNat x) w
  have hx : ((UInt8.ofNat x).toNat : Int) = x:=by
   have : (UInt8.ofNat x).toNat = x:=by simp [UInt8.toNat_ofNat];omega
   omega
  rw [hx] at hW
  have HW:=Lib.hid hW
  have hi : (x : Int) < 128:=by omega
  have h0 : (0 : Int)≤x:=by omega
  have HR : Hid (Fd.whiteR x = Mk.white (UInt8.ofNat x)):=by show _ = _;unfold Fd.whiteR;rw [decide_eq_true h,Bool.true_and]
  clear hW hx h
  go_enter Tryz.func157,Tryz.ntmps157
  go_wp2_with fail
  refine HW.out.mono ?_
  rintro e wx ⟨rfl,hwx⟩
  subst wx
  go_wp2_with fail
  go_ret
  exact ⟨ret_bool HR.out.symm,rfl⟩
 ·have hi : ¬ (x : Int) < 128:=by omega
  have HR : Hid (Fd.whiteR x = false):=by show _ = _;unfold Fd.whiteR;rw [decide_eq_false h,Bool.false_and]
  clear h
  go_enter Tryz.func157,Tryz.ntmps157
  go_wp2_with fail
  go_ret
  exact ⟨ret_bool HR.out.symm,rfl⟩
theorem pred_told (w : World) : PredGrows Tryz.prog 157 #[] Fd.whiteR w :=
 fun W x _ _=>(fi_told1 x W).mono fun _ _ ⟨he,hw⟩=>⟨he,hw ▸ Below.refl _ _⟩
set_option maxHeartbeats 8000000 in
set_option maxRecDepth 100000 in
theorem fi_Told (s : List UInt8) (w : World) (hg : Gl w) (hs : s.length≤3000) :
  Calls Tryz.prog 95 #[.string (st s)] w fun e w'=>e = .returned (.string (st (Fd.toldP s)))∧Below w.heap.size w w':=by
 have hal:=(Below.refl w.heap.size w).alloc (Nat.le_refl _) (.cells #[.pointer none,.slice none 0 0] 205)
 have HG1:=Lib.hid (hg.alloc (.cells #[.pointer none,.slice none 0 0] 205))
 have BN : Hid (∀ N,BdI 205 N w.heap.size (Lib.byteCells []) (w.alloc (.cells #[.pointer none,.slice none 0 0] 205))):=fun N=>BdI.new _ N w
 have HL:=Lib.hid hal
 have hsz : w.heap.size < (w.alloc (.cells #[.pointer none,.slice none 0 0] 205)).heap.size:=by simp
 have hT:=Fd.told_len s hs
 obtain ⟨ht1,ht2⟩:=hT
 have HTP : Hid (Fd.toldP s = Fd.wordsP (st (Fd.tellF (Mk.build (Mk.toks s))))):=rfl
 have HB1:=Lib.hid (Mk.toks_bulk s)
 clear hal
 go_enter Tryz.func95,Tryz.ntmps95
 go_upto_region 2 with fail
 generalize (w.alloc (.cells #[.pointer none,.slice none 0 0] 205)) = w1 at HG1 BN HL hsz ⊢
 have HA:=Lib.hid (mk_All (st s) w1 HG1.out (by rw [st_size];omega))
 go_wp2_with fail
 refine HA.out.mono ?_
 rintro e w2 ⟨v2,rfl,hv2,hb2⟩
 have B2:=Lib.hid (HL.out.trans (hb2.mono HL.out.size))
 have C2:=Lib.hid hb2
 have HO:=Lib.hid (tr_Of (Mk.toks s) v2 _ w2 hv2 (fun b q=>q.2) (by have:=HB1.out;omega))
 clear hv2 hb2 HA
 go_wp2_with fail
 refine HO.out.mono ?_
 rintro e w3 ⟨v3,rfl,hv3,hb3⟩
 have B3:=Lib.hid (B2.out.trans (hb3.mono B2.out.size))
 have C3:=Lib.hid (C2.out.trans (hb3.mono C2.out.size))
 have BD3:=Lib.hid ((BN.out w3.heap.size).below C3.out)
 have HK : Hid (∀ x,(w2.heap.size≤x∧x < w3.heap.size)→x < w3.heap.size∧x ≠ w.heap.size):=fun x q=>⟨q.2,by have:=C2.out.size;omega⟩
 obtain ⟨gm,o,cap,hv1,hlen,hat⟩:=hv3.at_
 obtain ⟨aok,capk,hvs⟩ : ∃ ao cp,v3 = .slice ao (Mk.build (Mk.toks s)).len cp:=by
  rcases hv1 with ⟨q,_⟩ | ⟨ao,q,q2⟩
  ·exact ⟨_,_,q⟩
  ·rw [q2];exact ⟨_,_,q⟩
 subst hvs
 have HV1:=Lib.hid hv1
 have HAT:=Lib.hid hat
 have hbB : w.heap.size < w3.heap.size:=Nat.lt_of_lt_of_le hsz C3.out.size
 clear hv1 hat hv3 hb3 HO BN C2 C3 B2 HL HG1
 generalize Mk.build (Mk.toks s) = k at HV1 HAT hlen HTP ht1 ⊢
 generalize hbe : w.heap.size = b at BD3 HK hbB B3 ⊢
 have HBE:=Lib.hid hbe
 clear hbe
 have hkl : k.len≤9223372036854775807:=by unfold maxLen at hlen;omega
 go_wp2_with fail
 go_loopw [13] (fun i wr=>∃ (j : Nat) (L : List UInt8),j≤k.len∧i = .int .i64 j∧Hid (L++Fd.tellF (k.drop j) = Fd.tellF k)∧Hid (BdI 205 w3.heap.size b (Lib.byteCells L) wr)∧Hid (Bes w3.heap.size b w3 wr)) (fun i _=>k.len - (intOf i).toNat)
 case atStart=>exact ⟨0,[],Nat.zero_le _,rfl,by show _ = _;rw [Mk.Fo.drop_zero];rfl,BD3,Bes.refl _ _ _⟩
 case round =>
  clear BD3
  obtain ⟨j,L,hj,rfl,HL,BDr,BWr⟩:=hrel
  have hNr:=BWr.out.size
  by_cases hlt : j < k.len
  ·obtain ⟨hv1,hKg⟩ : Value.slice aok k.len capk = .slice (some ⟨gm,o,none⟩) k.len cap∧(w2.heap.size≤gm∧gm < w3.heap.size):=by
    rcases HV1.out with q | ⟨ao,_,q⟩
    ·exact q
    ·subst q;exact absurd hlt (Nat.not_lt_zero _)
   injection hv1 with e1 _ e3
   subst e1;subst e3
   obtain ⟨n',a',t',kk,r,hd,hd1⟩:=Mk.Fo.drop_lt k j hlt
   obtain ⟨va',vk',c0,c1,c2,c3,hva',hvk'⟩:=HAT.out j n' a' t' kk r hd
   have hgm : wr.heap[gm]? = w3.heap[gm]?:=BWr.out.block gm (HK.out gm hKg).1 (HK.out gm hKg).2
   rw [← cell_of_block hgm] at c0 c1 c2 c3
   obtain ⟨aoa',capa',hva1',_⟩:=id hva'
   obtain ⟨aok',capk',xsk',hvk1',_⟩:=id hvk'
   subst hva1'
   subst hvk1'
   have HL2 : Hid ((L++Fd.tellOne n' t' kk)++Fd.tellF (k.drop (j + 1)) = Fd.tellF k):=by
    show _ = _
    have h:=HL.out
    rw [hd,Fd.tell_node] at h
    rw [hd1,List.append_assoc];exact h
   have hLL : L.length + (Fd.tellOne n' t' kk).length≤1099511627776:=by
    have h:=congrArg List.length HL2.out
    simp only [List.length_append] at h
    omega
   have hal:=(Below.refl wr.heap.size wr).alloc (Nat.le_refl _) (.cells #[.string (st n'),.slice aoa' a'.length capa',.string (st t'),.slice aok' kk.len capk'] 53)
   have RB:=Lib.hid (Blk.new wr 53 #[.string (st n'),.slice aoa' a'.length capa',.string (st t'),.slice aok' kk.len capk'])
   have BD4:=Lib.hid (BDr.out.below hal)
   have BS4 : Hid (Bes w3.heap.size b wr (wr.alloc (.cells #[.string (st n'),.slice aoa' a'.length capa',.string (st t'),.slice aok' kk.len capk'] 53))):=Bes.of hal hNr
   have HVA : Hid (AtsV _ (fun x=>w2.heap.size≤x∧x < w3.heap.size) (.slice aoa' a'.length capa') a'):=hva'.frame (fun x q=>⟨q,(BWr.out.trans BS4.out).block x (HK.out x q).1 (HK.out x q).2⟩)
   have HVK2 : Hid (FoV _ (fun x=>w2.heap.size≤x∧x < w3.heap.size) (.slice aok' kk.len capk') kk):=hvk'.frame (fun x q=>⟨q,(BWr.out.trans BS4.out).block x (HK.out x q).1 (HK.out x q).2⟩)
   have BW4:=Lib.hid (BWr.out.trans BS4.out)
   have hN4:=Nat.le_trans hNr BS4.out.size
   have HIH:=Lib.hid (nd_node (kk.bulk + 1) n' a' t' kk (Nat.lt_succ_self _))
   clear hd hd1 hva' hvk' hal HL hgm BS4 BWr BDr
   go_upto_region 5 with fail
   clear c0 c1 c2 c3
   generalize wr.alloc (.cells #[.string (st n'),.slice aoa' a'.length capa',.string (st t'),.slice aok' kk.len capk'] 53) = w4 at RB BD4 HVA HVK2 BW4 hN4 ⊢
   generalize wr.heap.size = R at RB hNr ⊢
   have r0 : w4.cell? ⟨R,0,none⟩ = some (.string (st n')):=Blk.cell RB.out 0
   have r1 : w4.cell? ⟨R,1,none⟩ = some (.slice aoa' a'.length capa'):=Blk.cell RB.out 1
   have r2 : w4.cell? ⟨R,2,none⟩ = some (.string (st t')):=Blk.cell RB.out 2
   have r3 : w4.cell? ⟨R,3,none⟩ = some (.slice aok' kk.len capk'):=Blk.cell RB.out 3
   go_wp2_with fail
   refine (HIH.out _ _ _ _ b L w4 HVA.out HVK2.out HK.out hN4 BD4.out hLL).mono ?_
   rintro e w5 ⟨rfl,h1,h2⟩
   have BD5:=Lib.hid h1
   have BW5:=Lib.hid (BW4.out.trans h2)
   clear h1 h2 r0 r1 r2 r3
   go_wp2_with fail
   go_roundw
   case rel=>exact ⟨j + 1,_,by omega,by go_num,HL2,BD5,BW5⟩
   case measure=>simp [intOf];omega
  ·have hje : j = k.len:=by omega
   have HLE : Hid (L = Fd.tellF k):=by
    show _ = _
    have h:=HL.out
    rw [hje,Mk.Fo.drop_len,show Fd.tellF Mk.Fo.nil = [] from rfl,List.append_nil] at h
    exact h
   rw [← HLE.out] at HTP ht1
   have HST:=Lib.hid (wb_String 205 w3.heap.size b L wr BDr.out hNr)
   have HBW : Hid (Below b w wr):=B3.out.trans (BWr.out.below (Nat.le_refl _) (Nat.le_of_lt hbB))
   have hLs : L.length≤4194304:=ht1
   clear hje HL HLE ht1 HV1 HAT BDr BWr
   go_wp2_with fail
   refine HST.out.mono ?_
   rintro e w4 ⟨rfl,hb4⟩
   have B4:=Lib.hid (HBW.out.trans (hb4.mono (Nat.le_of_lt hbB)))
   have hs4:=hb4.size
   clear hb4 HST HBW
   go_wp2_with fail
   refine (Tryz.strings_FieldsFunc_grows 157 #[] eg_told1 Fd.whiteR (st L) w4 (by rw [st_size];omega) (pred_told w4)).mono ?_
   rintro e w5 ⟨A,rfl,hA,how,hb5⟩
   have B5:=Lib.hid (B4.out.trans (hb5.mono (by omega)))
   have hs5:=hb5.size
   have hlt:=(how.lt A rfl).2
   have HJ:=Lib.hid (Tryz.strings_Join A 0 (Lib.goFieldsP Fd.whiteR (st L)).length (Lib.goFieldsP Fd.whiteR (st L)) (st [32]) w5
    (fun j x hx=>by
     have h:=how.cells (g:=A) rfl j (.string x) (by rw [List.getElem?_map,hx];rfl)
     have e1 : (⟨A,0,none⟩ : Addr).add j = ⟨A,0 + j,none⟩:=by unfold Addr.add;split <;> simp_all
     rwa [e1] at h)
    hlt (by have:=Fd.fields_len (st L);rw [st_size] at this;omega) (Nat.le_refl _)
    (by have:=Fd.words_len (st L);unfold Fd.wordsP at this;rw [st_size] at this;exact Nat.le_trans this (by omega)))
   clear how hb5 hA
   generalize (Lib.goFieldsP Fd.whiteR (st L)).length = fl at HJ ⊢
   go_wp2_with fail
   refine HJ.out.mono ?_
   rintro e w6 ⟨rfl,hb6⟩
   have B6:=Lib.hid (B5.out.trans (hb6.mono (by omega)))
   clear hb6 HJ
   go_wp2_with fail
   go_ret
   exact ⟨ret_str (by rw [HTP.out];rfl),by rw [HBE.out];exact B6.out⟩
end Go.Proofs.YtjonkbdldebkiaaGreatDoor

/- Contracts of the program's leap, long, ahead. Condition: years from 0 to 100000. -/
namespace Fd
theorem lpB_is (y : Int) : lpB y = ((decide (y % 4 = 0) && !decide (y % 100 = 0)) || decide (y % 400 = 0)):=by
 unfold lpB
 by_cases h1 : y % 4 = 0 <;> by_cases h2 : y % 100 = 0 <;> by_cases h3 : y % 400 = 0 <;> simp [h1,h2,h3]
end Fd
namespace Go.Proofs.YtjonkbdldebkiaaGreatDoor
open Go.RowKit
theorem tmod_is {a b : Int} (h : 0≤a) : a.tmod b = a % b:=Int.tmod_eq_emod_of_nonneg h
theorem tdiv_is {a b : Int} (h : 0≤a) : a.tdiv b = a / b:=Int.tdiv_eq_ediv_of_nonneg h
set_option maxHeartbeats 1000000 in
theorem dt_leap (y : Int) (hy : 0≤y) (w : World) :
  Calls Tryz.prog 113 #[.int .i64 y] w fun e w'=>e = .returned (.bool (Fd.lpB y))∧w' = w:=by
 have HL:=Lib.hid (Fd.lpB_is y)
 go_enter Tryz.func113,Tryz.ntmps113
 go_wp2_with fail
 all_goals (go_ret;refine ⟨ret_bool ?_,rfl⟩;rw [HL.out];first | rfl | (simp [*];done) | (by_cases q : y % 400 = 0 <;> simp [*]))
set_option maxHeartbeats 4000000 in
theorem dt_long (y m : Int) (hy : 0≤y) (h1 : 1≤m) (h2 : m≤12) (w : World) :
  Calls Tryz.prog 65 #[.int .i64 y,.int .i64 m] w fun e w'=>e = .returned (.int .i64 (Fd.long y m))∧Below w.heap.size w w':=by
 have hal:=fun o=>(Below.refl w.heap.size w).alloc (Nat.le_refl _) o
 have HAL:=Lib.hid hal
 have HLP:=Lib.hid (fun W=>dt_leap y hy W)
 have e2 : Fd.long y 2 = 28 + if Fd.lpB y then 1 else 0:=rfl
 have HE:=Lib.hid e2
 clear hal hy e2
 rcases (by omega : m = 1 ∨ m = 2 ∨ m = 3 ∨ m = 4 ∨ m = 5 ∨ m = 6 ∨ m = 7 ∨ m = 8 ∨ m = 9 ∨ m = 10 ∨ m = 11 ∨ m = 12) with h | h | h | h | h | h | h | h | h | h | h | h
 case' inr.inl =>
  subst h
  go_enter Tryz.func65,Tryz.ntmps65
  go_wp2_with fail
  refine (HLP.out _).mono ?_
  rintro e w1 ⟨rfl,rfl⟩
  obtain ⟨b,hb⟩ : ∃ b,Fd.lpB y = b:=⟨_,rfl⟩
  rw [hb] at HE ⊢
  clear hb
  cases b <;>
  ·go_wp2_with fail
   go_ret
   exact ⟨ret_int (by rw [HE.out];rfl),HAL.out _⟩
 all_goals
  subst h
  go_enter Tryz.func65,Tryz.ntmps65
  go_wp2_with fail
  go_ret
  exact ⟨ret_int rfl,HAL.out _⟩
set_option maxHeartbeats 1000000 in
theorem dt_ahead (y : Int) (hy : 0≤y) (h2 : y≤100000) (w : World) :
  Calls Tryz.prog 64 #[.int .i64 y] w fun e w'=>e = .returned (.int .i64 (Fd.ahead y))∧w' = w:=by
 by_cases h0 : y = 0
 ·subst h0
  go_enter Tryz.func64,Tryz.ntmps64
  go_wp2_with fail
  go_ret
  exact ⟨rfl,rfl⟩
 ·have e0 : (y == 0) = false:=beq_eq_false_iff_ne.2 h0
  have HE : Hid (Fd.ahead y = 365 * (y - 1 + 1) + (y - 1) / 4 - (y - 1) / 100 + (y - 1) / 400 + 1):=by show _ = _;unfold Fd.ahead;rw [if_neg h0]
  have q4 : (y - 1).tdiv 4 = (y - 1) / 4:=tdiv_is (by omega)
  have q100 : (y - 1).tdiv 100 = (y - 1) / 100:=tdiv_is (by omega)
  have q400 : (y - 1).tdiv 400 = (y - 1) / 400:=tdiv_is (by omega)
  have H4:=Lib.hid q4
  have H100:=Lib.hid q100
  have H400:=Lib.hid q400
  clear q4 q100 q400 h0
  go_enter Tryz.func64,Tryz.ntmps64
  go_wp2_with fail
  go_ret
  refine ⟨ret_int ?_,rfl⟩
  rw [HE.out,H4.out,H100.out,H400.out]
  unfold wrap64
  omega
end Go.Proofs.YtjonkbdldebkiaaGreatDoor
