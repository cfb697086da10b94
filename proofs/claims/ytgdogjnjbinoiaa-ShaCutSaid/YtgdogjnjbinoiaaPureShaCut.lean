/- What the walk of ShaCut leaves to plain Lean: nothing. -/
import Derived.Test.YtgdogjnjbinoiaaDShaCut
namespace Go.Proofs.Ytgdogjnjbinoiaa.Pure
open Go.Proofs.Ytgdogjnjbinoiaa.Q
theorem ShaCut : casketlaw13_ShaCut.Pure := trivial
end Go.Proofs.Ytgdogjnjbinoiaa.Pure
