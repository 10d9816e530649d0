/- An argument that is a shelf, as it reads, is entries and ids in memory, no larger than what is read. No program in sight but its types. -/
import Derived.Test.YtjonkbdldebkiaaGreatDoorRows
import Derived.Test.YtjonkbdldebkiaaGreatDoorYWeA
import Derived.Test.YtjonkbdldebkiaaGreatDoorYUrlD
import Derived.DataElems
import Derived.ChangeArms
set_option linter.unusedVariables false
set_option linter.unusedSimpArgs false
namespace Go.Proofs.YtjonkbdldebkiaaGreatDoor
open Go.Proofs.Tryz Go.RowKit Go.ChangeShapes
section
variable {H : Type} {enc : TypeId × Value→H} {w : World} {base : Nat} {spare : Nat→Bool} {held : Bool}
theorem cells_at {a:Addr} {n:Nat} {cs:List Value} (h:w.cells? base a n=some cs):cs.length=n∧∀ (i:Nat) (v:Value),cs[i]? = some v→w.cell? (a.add i)=some v:=by
 obtain⟨_,h1,h2⟩:=World.cells?_some h;refine⟨h1,fun i v hv=>?_⟩;have hi:i < cs.length:=by
  rcases Nat.lt_or_ge i cs.length with q | q
  ·exact q
  ·rw[List.getElem?_eq_none q] at hv;cases hv
 rw[h2 i (by omega),hv]
theorem rowAt_of {a:Addr} {xs:List Value} (h:∀ (i:Nat) (v:Value),xs[i]? = some v→w.cell? (a.add i)=some v):z19 w (fun b=>b < w.heap.size) (some a) xs:=by
 cases xs with
 | nil=>exact .inl rfl
 | cons x r =>
  have h0:=h 0 x rfl;rw[Addr.add_zero'] at h0;have hlt:=World.block_lt_of_cell? w _ h0;have hs:a.spot=none:=by
   unfold World.cell? at h0
   split at h0
   ·split at h0
    ·cases h0
    ·rename_i hsp;cases hq:a.spot with
     | none=>rfl
     | some _=>rw[hq] at hsp;simp at hsp
   ·cases h0
  obtain⟨g,o,sp⟩:=a;have hs:sp=none:=hs;subst hs;refine .inr ⟨g,o,rfl,hlt,fun i v q=>?_⟩;have:=h i v q
  rwa [Addr.add_lit] at this
theorem cstr:prog.cellsOf 9=1:=by kernel_rfl
theorem cint:prog.cellsOf 3=1:=by kernel_rfl
end
end Go.Proofs.YtjonkbdldebkiaaGreatDoor
