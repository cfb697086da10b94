/- What the walk of ShaNone leaves to plain Lean: nothing. -/
import Derived.Test.YtgdogjnjbinoiaaDShaNone
namespace Go.Proofs.Ytgdogjnjbinoiaa.Pure
open Go.Proofs.Ytgdogjnjbinoiaa.Q
theorem ShaNone : casketlaw13_ShaNone.Pure := trivial
end Go.Proofs.Ytgdogjnjbinoiaa.Pure
