/- The closed facts of the row that says that what a feed tells is right, each by itself. -/
import Derived.Test.YtjonkbdldebkiaaGreatDoorRows
import Derived.WalkKit
import Derived.ProofKit
import Derived.OpenShut
import Derived.MakeChecks
import Derived.Deep.DeepHandedRow
set_option linter.unusedVariables false
set_option linter.unusedSimpArgs false
set_option maxHeartbeats 16000000
set_option maxRecDepth 100000
namespace Go.Proofs.YtjonkbdldebkiaaGreatDoor.RightDone
open Go.ChangeShapes Go.WideShapes Go.ChangeAt Go.RowKit
theorem closedF:joinedFacts Tryz.pinned.checked.prog 6 Tryz.f6 (OpenSpec.ofChange Rows.feedRightSpec).bare Rows.feedRightRow=true:=by
 unfold joinedFacts;simp only [Bool.and_eq_true]
 repeat' apply And.intro
 all_goals
  as_aux_lemma=>kernel_rfl
end Go.Proofs.YtjonkbdldebkiaaGreatDoor.RightDone
