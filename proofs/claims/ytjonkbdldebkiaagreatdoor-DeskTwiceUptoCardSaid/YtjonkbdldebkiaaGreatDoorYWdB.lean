/- Contracts of the program's padded and Print: a time as it is written. Condition: the library's table of powers is as it was laid. -/
import Derived.Test.YtjonkbdldebkiaaGreatDoorYWdA
import Derived.Test.YtjonkbdldebkiaaGreatDoorYMkTok2
import Derived.Lib.AppendIntMem
import Derived.Deep.LoopGhost
set_option linter.unusedVariables false
set_option linter.unusedSimpArgs false
namespace Go.Proofs.YtjonkbdldebkiaaGreatDoor
open Go.Proofs.Tryz Go.RowKit
def Pow (w : World) : Prop := Lib.TabIs prog w "internal/strconv.uint64pow10" .u64 Lib.pow10Tab
end Go.Proofs.YtjonkbdldebkiaaGreatDoor
namespace Fd
end Fd
namespace Go.Proofs.YtjonkbdldebkiaaGreatDoor
open Go.Proofs.Tryz Go.RowKit
theorem Pow.below {w w':World} (h:Pow w) (hb:Below w.heap.size w w'):Pow w':=by
 unfold Pow Lib.TabIs World.var? at *
 cases hg : prog.globalNamed "internal/strconv.uint64pow10" with
 | none=>rw[hg] at h;cases h
 | some g =>
  rw[hg] at h;simp only [Option.bind_some] at h ⊢
  cases hh:w.heap[g]? with
  | none=>rw[hh] at h;cases h
  | some o=>rw[hb.block g (Array.getElem?_eq_some_iff.1 hh).1,hh];rw[hh] at h;exact h
end Go.Proofs.YtjonkbdldebkiaaGreatDoor
