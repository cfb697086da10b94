/- The pure functions (plain Lean over whole numbers and lists) of: merkle_summed, merkle_Node, merkle_Leaf. -/
import Derived.Test.YtgdogjnjbinoiaaDoorWWordsX
import Derived.Test.YtgdogjnjbinoiaaDoorPsha
namespace Go.Proofs.YtgdogjnjbinoiaaDoor.Q
open Go.RowKit Go.Proofs.YtgdogjnjbinoiaaDoorW.PrintWords Go.Proofs.YtgdogjnjbinoiaaDoorW.PrintLast Go.Proofs.YtgdogjnjbinoiaaDoorW.PrintMore
attribute [local go_sem] max2_int min2_int max_two min_two max_three min_three max_four min_four   -- for this text's walks alone
set_option linter.unusedVariables false
set_option linter.unusedSimpArgs false

/-! ### merkle_summed: function 41 -/
/-- The sum of a byte and of pieces. -/
def merkle_summed.f (a0 : Int) (l1 : List (List Int)) : Option (List Int)   := if l1.flatten.length ≤ 549755813000 ∧ l1.length ≤ 1000000 then some (shaW (a0 :: l1.flatten)) else none

/-! ### merkle_Node: function 18 -/
def merkle_Node.f (l0 : List Int) (l1 : List Int) : Option (List Int) := (merkle_summed.f 1 (([l0, l1] : List (List Int)))).bind fun t123 => (some t123)

/-! ### merkle_Leaf: function 19 -/
def merkle_Leaf.f (l0 : List Int) : Option (List Int) := (merkle_summed.f 0 (([l0] : List (List Int)))).bind fun t382 => (some t382)

end Go.Proofs.YtgdogjnjbinoiaaDoor.Q
