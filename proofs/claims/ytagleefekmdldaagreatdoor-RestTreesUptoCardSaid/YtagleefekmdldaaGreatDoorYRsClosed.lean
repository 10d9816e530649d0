/- The closed facts of the row that says that trees and tokens that were changed change nothing else, each by itself. -/
import Derived.Test.YtagleefekmdldaaGreatDoorRows
import Derived.WalkKit
import Derived.ProofKit
import Derived.OpenShut
import Derived.MakeChecks
import Derived.Deep.DeepHandedRow
set_option linter.unusedVariables false
set_option linter.unusedSimpArgs false
set_option maxHeartbeats 16000000
set_option maxRecDepth 100000
namespace Go.Proofs.YtagleefekmdldaaGreatDoor.TreesDone
open Go.ChangeShapes Go.WideShapes Go.ChangeAt Go.RowKit
theorem closedF:joinedFacts Tryz.pinned.checked.prog 3 Tryz.f3 (Rows.OpenSpec.upto Rows.restTreesSpec).bare Rows.restTreesUptoRow=true:=by
 unfold joinedFacts;simp only [Bool.and_eq_true]
 repeat' apply And.intro
 all_goals
  as_aux_lemma=>kernel_rfl
end Go.Proofs.YtagleefekmdldaaGreatDoor.TreesDone
