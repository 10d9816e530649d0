/- Contracts of the program's shelf.Order and shelf.read. Condition on Order: times from 0 to the end of 2099. -/
import Derived.Test.YtjonkbdldebkiaaGreatDoorVWeA
import Derived.Test.YtjonkbdldebkiaaGreatDoorVWpF
import Derived.Test.YtjonkbdldebkiaaGreatDoorVWsA
import Derived.Lib.Bytealg
set_option linter.unusedVariables false
set_option linter.unusedSimpArgs false
namespace Fd
open Go
end Fd
namespace Go.Proofs.YtjonkbdldebkiaaGreatDoor
open Go.RowKit
end Go.Proofs.YtjonkbdldebkiaaGreatDoor
