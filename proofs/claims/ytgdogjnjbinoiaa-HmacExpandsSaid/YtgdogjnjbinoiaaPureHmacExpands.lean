/- What is made of any key and any bytes, so many, is the reference's: the pure statement, for lists of bytes. -/
import Derived.Test.YtgdogjnjbinoiaaDHmacExpands
import Derived.Test.YtgdogjnjbinoiaaFexp
namespace Go.Proofs.Ytgdogjnjbinoiaa.Pure
open Go.RowKit Go.Proofs.Ytgdogjnjbinoiaa.Q Go.Proofs.Ytgdogjnjbinoiaa.F Go.Proofs.YtgdogjnjbinoiaaW.PrintWords Go.Proofs.YtgdogjnjbinoiaaW.PrintLast Go.Proofs.YtgdogjnjbinoiaaW.PrintMore
set_option linter.unusedVariables false

theorem HmacExpands : casketlaw14_HmacExpands.Pure := by
  intro key info n _ _ hk _ _ hi hn
  have Hk := bytes_of hk
  have Hi := bytes_of hi
  apply Ev.rounds
  unfold casketlaw14_HmacExpands.f
  refine Ev.bind awake14_ev ?_
  have long : Ev (fun k => casketlaw14_HmacExpands.j0 k key info n true true) true := Ev.step (f := fun _ => some true) (fun k => by simp only [casketlaw14_HmacExpands.j0]; rfl) (Ev.now _)
  by_cases h1 : (key.length : Int) > 300
  · simp only [if_pos h1]
    exact long
  · simp only [if_neg h1]
    by_cases h2 : (info.length : Int) > 300
    · simp only [if_pos h2]
      exact long
    · simp only [if_neg h2]
      have core : ∀ r : List Int × Int, r.1.length ≤ 8160 → hmac_Expand.f key info n = some r → Ev (fun k => casketref14_Expand.f k key info n) r → Ev (fun k => casketlaw14_HmacExpands.j0 k key info n true false) true := fun r hr hf he => by
        refine Ev.step (f := fun k => (casketref14_Expand.f k key info n).bind fun b => (if r.2 = b.2 then ((casketlaw14_same.f k r.1 b.1).bind fun t => (some t)) else (some false))) (fun k => ?_) ?_
        · simp only [casketlaw14_HmacExpands.j0, hf, Option.bind_some]
          rw [if_neg (by simp)]
          simp only [if_true]
        · refine Ev.bind he ?_
          simp only [if_true]
          refine Ev.bind (same14_ev r.1 r.1 (by omega)) ?_
          rw [decide_eq_true rfl]
          exact Ev.now _
      by_cases h3 : n > 400
      · simp only [if_pos h3]
        by_cases h4 : n ≤ 8160
        · simp only [decide_eq_true h4]
          exact long
        · simp only [decide_eq_false h4]
          exact core ([], 1) (by simp) (exp_f_none key info n (.inr (by omega))) (refexp_none key info n (.inr (by omega)))
      · simp only [if_neg h3]
        by_cases h5 : n < 0
        · exact core ([], 1) (by simp) (exp_f_none key info n (.inl h5)) (refexp_none key info n (.inl h5))
        · exact core (expW key info n, 0) (by have := expW_length key info n (by omega) (by omega); simp only; omega) (exp_f key info n (by omega) (by omega) (by omega) (by omega)) (refexp_ev key info n (by omega) (by omega) Hk Hi (by omega) (by omega))
end Go.Proofs.Ytgdogjnjbinoiaa.Pure
