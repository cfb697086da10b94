/- The pure functions (plain Lean over whole numbers and lists) of: sha_Sum. -/
import Derived.Test.YtkennblgbfhjiaaGreatDoorWWords
import Derived.Test.YtkennblgbfhjiaaGreatDoorWAll
import Derived.Test.YtkennblgbfhjiaaGreatDoorPsha
namespace Go.Proofs.YtkennblgbfhjiaaGreatDoor.Q
open Go.RowKit Go.Proofs.YtkennblgbfhjiaaGreatDoorW.PrintWords Go.Proofs.YtkennblgbfhjiaaGreatDoorW.PrintLast Go.Proofs.YtkennblgbfhjiaaGreatDoorW.PrintMore
attribute [local go_sem] max2_int min2_int max_two min_two max_three min_three max_four min_four   -- for this text's walks alone
set_option linter.unusedVariables false
set_option linter.unusedSimpArgs false

/-! ### sha_Sum: function 130 -/
/-- The sum of bytes. -/
def sha_Sum.f (l0 : List Int) : Option (List Int) := if l0.length ≤ 549755813888 then some (shaW l0) else none

end Go.Proofs.YtkennblgbfhjiaaGreatDoor.Q
