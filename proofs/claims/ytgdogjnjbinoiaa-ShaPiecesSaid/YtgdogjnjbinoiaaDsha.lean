/- The pure functions (plain Lean over whole numbers and lists) of: sha_Sum, casketlaw13_awake. -/
import Derived.Test.YtgdogjnjbinoiaaWWords
import Derived.Test.YtgdogjnjbinoiaaWAll
import Derived.Test.YtgdogjnjbinoiaaPsha
namespace Go.Proofs.Ytgdogjnjbinoiaa.Q
open Go.RowKit Go.Proofs.YtgdogjnjbinoiaaW.PrintWords Go.Proofs.YtgdogjnjbinoiaaW.PrintLast Go.Proofs.YtgdogjnjbinoiaaW.PrintMore
attribute [local go_sem] max2_int min2_int max_two min_two max_three min_three max_four min_four   -- for this text's walks alone
set_option linter.unusedVariables false
set_option linter.unusedSimpArgs false

/-! ### sha_Sum: function 21 -/
/-- The sum of bytes. -/
def sha_Sum.f (l0 : List Int) : Option (List Int) := if l0.length ≤ 549755813888 then some (shaW l0) else none

/-! ### casketlaw13_awake: function 19 -/
def casketlaw13_awake.f  : Option (Bool) := (sha_Sum.f (([97, 98, 99] : List Int))).bind fun t108 => ((sha_Sum.f ([] : List Int)).bind fun t111 => (if (t108.length : Int) = 32 then (if 0 < (t108.length : Int) then (if (rd t108 0) = 186 then (if 1 < (t108.length : Int) then (if (rd t108 1) = 120 then (if 2 < (t108.length : Int) then (if (rd t108 2) = 22 then (if (t111.length : Int) = 32 then (if 0 < (t111.length : Int) then (if (rd t111 0) = 227 then (if 1 < (t111.length : Int) then (some ((rd t111 1) == 176)) else (none)) else (some false)) else (none)) else (some false)) else (some false)) else (none)) else (some false)) else (none)) else (some false)) else (none)) else (some false)))

end Go.Proofs.Ytgdogjnjbinoiaa.Q
