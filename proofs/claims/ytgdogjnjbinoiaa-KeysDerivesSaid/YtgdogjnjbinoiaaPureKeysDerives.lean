/- The key of any key, purpose and name, or why there is none, is the reference's: the pure statement. -/
import Derived.Test.YtgdogjnjbinoiaaDKeysDerives
import Derived.Test.YtgdogjnjbinoiaaFkeys
namespace Go.Proofs.Ytgdogjnjbinoiaa.Pure
open Go.RowKit Go.Proofs.Ytgdogjnjbinoiaa.Q Go.Proofs.Ytgdogjnjbinoiaa.F Go.Proofs.YtgdogjnjbinoiaaW.PrintWords Go.Proofs.YtgdogjnjbinoiaaW.PrintLast Go.Proofs.YtgdogjnjbinoiaaW.PrintMore
set_option linter.unusedVariables false

theorem KeysDerives : casketlaw18_KeysDerives.Pure := by
  intro key p s _ _ hk hp _
  obtain ⟨r, h1, h2, h3, _⟩ := derive_both key p s (bytes_of hk) (wf_u8 hp)
  apply Ev.rounds
  unfold casketlaw18_KeysDerives.f
  refine Ev.bind awake18_ev ?_
  have long : Ev (fun k => casketlaw18_KeysDerives.j0 k key p s true true) true := Ev.step (f := fun _ => some true) (fun k => by simp only [casketlaw18_KeysDerives.j0]; rfl) (Ev.now _)
  have core : Ev (fun k => casketlaw18_KeysDerives.j0 k key p s true false) true := by
    refine Ev.step (f := fun k => (casketlaw18_same.f k r.1 r.1).bind fun t => (some t)) (fun k => ?_) ?_
    · simp only [casketlaw18_KeysDerives.j0, h1, h2, Option.bind_some]
      rw [if_neg (by simp)]
      simp only [if_true]
    · refine Ev.bind (same18_ev r.1 r.1 (by omega)) ?_
      rw [decide_eq_true rfl]
      exact Ev.now _
  by_cases h4 : (key.length : Int) > 300
  · simp only [if_pos h4]
    exact long
  · simp only [if_neg h4]
    by_cases h5 : (s.size : Int) > 1000
    · simp only [decide_eq_true h5]
      exact long
    · simp only [decide_eq_false h5]
      exact core
end Go.Proofs.Ytgdogjnjbinoiaa.Pure
