/- The tag of any bytes by any key, and what is taken as one, is the reference's: the pure statement, for lists of bytes. -/
import Derived.Test.YtgdogjnjbinoiaaDHmacTags
import Derived.Test.YtgdogjnjbinoiaaFhmac
namespace Go.Proofs.Ytgdogjnjbinoiaa.Pure
open Go.RowKit Go.Proofs.Ytgdogjnjbinoiaa.Q Go.Proofs.Ytgdogjnjbinoiaa.F Go.Proofs.YtgdogjnjbinoiaaW.PrintWords Go.Proofs.YtgdogjnjbinoiaaW.PrintLast Go.Proofs.YtgdogjnjbinoiaaW.PrintMore
set_option linter.unusedVariables false

theorem HmacTags : casketlaw14_HmacTags.Pure := by
  intro key b tag _ _ hk _ _ hb _ _ ht
  apply Ev.rounds
  unfold casketlaw14_HmacTags.f
  refine Ev.bind awake14_ev ?_
  have long : Ev (fun k => casketlaw14_HmacTags.j0 k key b tag true true) true := Ev.step (f := fun _ => some true) (fun k => by simp only [casketlaw14_HmacTags.j0]; rfl) (Ev.now _)
  by_cases h1 : (key.length : Int) > 300
  · simp only [if_pos h1]
    exact long
  · simp only [if_neg h1]
    by_cases h2 : (b.length : Int) > 1000
    · simp only [if_pos h2]
      exact long
    · simp only [if_neg h2]
      by_cases h3 : (tag.length : Int) > 300
      · simp only [decide_eq_true h3]
        exact long
      · simp only [decide_eq_false h3]
        refine Ev.step (f := fun k => (casketref14_MAC.f k key b).bind fun t325 => ((casketlaw14_same.f k (macW key [b]) t325).bind fun t328 => (if t328 = true then ((hmac_Check.f k key b tag).bind fun t329 => ((casketref14_Check.f k key b tag).bind fun t330 => (if (t329 == t330) = true then ((hmac_Same.f k b tag).bind fun t331 => ((casketref01_Same.f k b tag).bind fun t332 => (some (t331 == t332)))) else (some false)))) else (some false)))) (fun k => ?_) ?_
        · simp only [casketlaw14_HmacTags.j0]
          rw [if_neg (by simp), if_pos trivial, mac_f key b (by omega) (by omega)]
          rfl
        · have Hk := bytes_of hk
          have Hb := bytes_of hb
          have Ht := bytes_of ht
          refine Ev.bind (refmac_ev key b (by omega) (by omega) Hk Hb) ?_
          refine Ev.bind (same14_ev _ _ (by rw [mac_len]; decide)) ?_
          rw [decide_eq_true rfl]
          simp only [if_true]
          refine Ev.bind (check_ev key b tag (by omega) (by omega) Ht) ?_
          refine Ev.bind (refcheck_ev key b tag (by omega) (by omega) Hk Hb) ?_
          simp only [beq_self_eq_true, if_true]
          refine Ev.bind (hsame_ev b tag Hb Ht (by omega)) ?_
          refine Ev.bind (same_ev b tag (by omega)) ?_
          rw [beq_self_eq_true]
          exact Ev.now _
end Go.Proofs.Ytgdogjnjbinoiaa.Pure
