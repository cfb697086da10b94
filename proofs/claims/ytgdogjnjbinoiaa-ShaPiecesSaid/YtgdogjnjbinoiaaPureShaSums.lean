/- The sum of any bytes is the reference's: the pure statement, for lists of bytes. -/
import Derived.Test.YtgdogjnjbinoiaaDShaSums
import Derived.Test.YtgdogjnjbinoiaaFsha
namespace Go.Proofs.Ytgdogjnjbinoiaa.Pure
open Go.RowKit Go.Proofs.Ytgdogjnjbinoiaa.Q Go.Proofs.Ytgdogjnjbinoiaa.F Go.Proofs.YtgdogjnjbinoiaaW.PrintWords Go.Proofs.YtgdogjnjbinoiaaW.PrintLast Go.Proofs.YtgdogjnjbinoiaaW.PrintMore
set_option linter.unusedVariables false

theorem awake13 : casketlaw13_awake.f = some true := by kernel_rfl
theorem ShaSums : casketlaw13_ShaSums.Pure := by
  intro l0 _ _ hb
  apply Ev.rounds
  unfold casketlaw13_ShaSums.f
  simp only [awake13, Option.bind_some, if_true]
  by_cases hl : (l0.length : Int) > 4000
  · simp only [if_pos hl]
    exact Ev.now _
  · simp only [if_neg hl]
    rw [sha_f l0 (by omega)]
    simp only [Option.bind_some]
    refine Ev.bind (refsum_ev l0 (by omega) (bytes_of hb)) ?_
    exact Ev.bind (same13_yes _ (by rw [shaW_length]; omega)) (Ev.now _)

end Go.Proofs.Ytgdogjnjbinoiaa.Pure
