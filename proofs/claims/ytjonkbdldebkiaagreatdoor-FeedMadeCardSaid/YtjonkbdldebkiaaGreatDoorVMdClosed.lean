/- The closed facts of the row that says that a feed that is written of an entry tells that entry, each by itself. -/
import Derived.Test.YtjonkbdldebkiaaGreatDoorRows
import Derived.WalkKit
import Derived.ProofKit
import Derived.OpenShut
import Derived.MakeChecks
import Derived.Deep.DeepHandedRow
set_option linter.unusedVariables false
set_option linter.unusedSimpArgs false
set_option maxHeartbeats 16000000
set_option maxRecDepth 100000
namespace Go.Proofs.YtjonkbdldebkiaaGreatDoor.MadeDone
open Go.ChangeShapes Go.WideShapes Go.ChangeAt Go.RowKit
theorem closedF:joinedFacts Tryz.pinned.checked.prog 5 Tryz.f5 (OpenSpec.ofChange Rows.feedMadeSpec).bare Rows.feedMadeRow=true:=by
 unfold joinedFacts;simp only [Bool.and_eq_true]
 repeat' apply And.intro
 all_goals
  as_aux_lemma=>kernel_rfl
end Go.Proofs.YtjonkbdldebkiaaGreatDoor.MadeDone
