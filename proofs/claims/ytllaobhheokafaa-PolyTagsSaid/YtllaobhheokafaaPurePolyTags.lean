/- The tag of any bytes by any key: the pure statement. -/
import Derived.Test.YtllaobhheokafaaDPolyTags
import Derived.Test.YtllaobhheokafaaFrefc
namespace Go.Proofs.Ytllaobhheokafaa.Pure
open Go.RowKit Go.Proofs.Ytllaobhheokafaa.Q Go.Proofs.Ytllaobhheokafaa.F Go.Proofs.YtllaobhheokafaaW.PrintWords Go.Proofs.YtllaobhheokafaaW.PrintLast Go.Proofs.YtllaobhheokafaaW.PrintMore
set_option linter.unusedVariables false
set_option linter.unusedSimpArgs false
theorem PolyTags : casketlaw16_PolyTags.Pure := by
  intro key b _ _ hk _ _ hb
  apply Ev.rounds
  unfold casketlaw16_PolyTags.f
  rw [awake16]
  simp only [Option.bind_some]
  by_cases h1 : (b.length : Int) > 600
  · simp only [if_pos h1]
    exact Ev.now _
  simp only [if_neg h1]
  have Hk := bytes_of hk
  have Hb := bytes_of hb
  by_cases h2 : key.length = 32
  · have f1 := pmac_f key b h2 Hk Hb (by omega)
    have f2 := refmac_ev key b Hk h2 Hb (by omega)
    rw [f1]
    simp only [Option.bind_some]
    refine Ev.bind f2 ?_
    simp only [if_true]
    refine Ev.bind (same16_ev _ _ (by rw [macP_length]; decide)) ?_
    rw [decide_eq_true rfl]
    exact Ev.now _
  · have f1 : poly_MAC.f key b = some ([], 1) := by
      unfold poly_MAC.f
      rw [if_neg h2]
    rw [f1]
    simp only [Option.bind_some, refmac_none _ key b h2, if_true]
    refine Ev.bind (same16_ev [] [] (by decide)) ?_
    exact Ev.now _
end Go.Proofs.Ytllaobhheokafaa.Pure
