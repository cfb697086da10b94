/- What the walk of ShaOthers leaves to plain Lean: nothing. -/
import Derived.Test.YtgdogjnjbinoiaaDShaOthers
namespace Go.Proofs.Ytgdogjnjbinoiaa.Pure
open Go.Proofs.Ytgdogjnjbinoiaa.Q
theorem ShaOthers : casketlaw13_ShaOthers.Pure := trivial
end Go.Proofs.Ytgdogjnjbinoiaa.Pure
