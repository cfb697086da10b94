/- The pure functions (plain Lean over whole numbers and lists) of: merkle_Prove. -/
import Derived.Test.YtgdogjnjbinoiaaDoorWWordsX
import Derived.Test.YtgdogjnjbinoiaaDoorHprove
namespace Go.Proofs.YtgdogjnjbinoiaaDoor.Q
open Go.RowKit Go.Proofs.YtgdogjnjbinoiaaDoorW.PrintWords Go.Proofs.YtgdogjnjbinoiaaDoorW.PrintLast Go.Proofs.YtgdogjnjbinoiaaDoorW.PrintMore
attribute [local go_sem] max2_int min2_int max_two min_two max_three min_three max_four min_four   -- for this text's walks alone
set_option linter.unusedVariables false
set_option linter.unusedSimpArgs false

/-! ### merkle_Prove: function 12 -/
def merkle_Prove.f (l0 : List (List Int)) (a1 a2 : Int) : Option (List (List Int) × Int) := if l0.length ≤ 1000 ∧ ∀ x ∈ l0, x.length ≤ 1000000 then some (proveW l0 a1 a2) else none

end Go.Proofs.YtgdogjnjbinoiaaDoor.Q
