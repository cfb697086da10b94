/- The pure functions (plain Lean over whole numbers and lists) of: sha_Sum. -/
import Derived.Test.YtgdogjnjbinoiaaDoorWWords
import Derived.Test.YtgdogjnjbinoiaaDoorWAll
import Derived.Test.YtgdogjnjbinoiaaDoorPsha
namespace Go.Proofs.YtgdogjnjbinoiaaDoor.Q
open Go.RowKit Go.Proofs.YtgdogjnjbinoiaaDoorW.PrintWords Go.Proofs.YtgdogjnjbinoiaaDoorW.PrintLast Go.Proofs.YtgdogjnjbinoiaaDoorW.PrintMore
attribute [local go_sem] max2_int min2_int max_two min_two max_three min_three max_four min_four   -- for this text's walks alone
set_option linter.unusedVariables false
set_option linter.unusedSimpArgs false

/-! ### sha_Sum: function 37 -/
/-- The sum of bytes. -/
def sha_Sum.f (l0 : List Int) : Option (List Int) := if l0.length ≤ 549755813888 then some (shaW l0) else none

end Go.Proofs.YtgdogjnjbinoiaaDoor.Q
