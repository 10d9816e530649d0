/- The plain law of numbers that are padded: so many digits. No program in sight. -/
import Derived.Test.YtjonkbdldebkiaaGreatDoorYUrlPlain
import Derived.Lib.ItoaNum
set_option linter.unusedVariables false
set_option linter.unusedSimpArgs false
namespace Fd
open Go
end Fd
