/- The pure functions (plain Lean over whole numbers and lists) of: casketlaw13_ShaNone. -/
import Derived.Test.YtgdogjnjbinoiaaWWords
import Derived.Test.YtgdogjnjbinoiaaWLast
import Derived.Test.YtgdogjnjbinoiaaWMore
namespace Go.Proofs.Ytgdogjnjbinoiaa.Q
open Go.RowKit Go.Proofs.YtgdogjnjbinoiaaW.PrintWords Go.Proofs.YtgdogjnjbinoiaaW.PrintLast Go.Proofs.YtgdogjnjbinoiaaW.PrintMore
attribute [local go_sem] max2_int min2_int max_two min_two max_three min_three max_four min_four   -- for this text's walks alone
set_option linter.unusedVariables false
set_option linter.unusedSimpArgs false

/-! ### casketlaw13_ShaNone: function 8 -/
/-- Nothing is left for plain Lean: the walk says it all. -/
def casketlaw13_ShaNone.Pure : Prop := True

end Go.Proofs.Ytgdogjnjbinoiaa.Q
