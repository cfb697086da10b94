/- The root that any leaves and any proof come to is the document's. No program in sight. -/
import Derived.Test.YtgdogjnjbinoiaaDoorHmz2
import Derived.Test.YtgdogjnjbinoiaaDoorDMerkleRebuilds
namespace Go.Proofs.YtgdogjnjbinoiaaDoor.Q
open Go.RowKit Go.Proofs.YtgdogjnjbinoiaaDoorW.PrintWords Go.Proofs.YtgdogjnjbinoiaaDoorW.PrintLast Go.Proofs.YtgdogjnjbinoiaaDoorW.PrintMore Go.Proofs.YtgdogjnjbinoiaaDoor.F
set_option linter.unusedVariables false
set_option linter.unusedSimpArgs false
theorem MerkleRebuilds_ev (r : List Int) (n i : Int) (l p : List (List Int)) (hr : Bytes r) (hy : AllBytes l) (hz : AllBytes p) : Ev (fun k => casketlaw20_MerkleRebuilds.f k r n i l p) true := by
  unfold casketlaw20_MerkleRebuilds.f
  refine Ev.bind awake_ev (Ev.bind (few_ev l 70 (by decide)) ?_)
  have hup : Ev (fun k => casketlaw20_MerkleRebuilds.j0 k r n i l p true true) true := by
    refine Ev.step (f := fun _ => some true) (fun k => ?_) (Ev.now _)
    simp only [casketlaw20_MerkleRebuilds.j0, if_true]
  by_cases hf : fewB l 70 = true
  · obtain ⟨hl, hs⟩ := fewB_small hf
    simp only [hf, if_true]
    refine Ev.bind (few_ev p 100 (by decide)) ?_
    by_cases hg : fewB p 100 = true
    · obtain ⟨hpl, hp⟩ := fewB_small hg
      simp only [hg, if_true]
      by_cases c : (r.length : Int) > 300
      · rw [decide_eq_true c]
        exact hup
      · rw [decide_eq_false c]
        refine Ev.step (f := fun k => (casketref20_Rebuild.f k n i l p).bind fun bt585 => (if (rebuildW n i l p).2 = bt585.2 then ((casketlaw20_same.f k (rebuildW n i l p).1 bt585.1).bind fun t589 => (if t589 = true then ((merkle_Verify.f k r n i l p).bind fun t590 => ((casketref20_Verify.f k r n i l p).bind fun t591 => (some (t590 == t591)))) else (some false))) else (some false))) (fun k => ?_) ?_
        · simp only [casketlaw20_MerkleRebuilds.j0]
          rw [if_neg (by decide), rebuild_f n i l p (by omega) hs (by omega) hp]
          rfl
        · refine Ev.bind (refrebuild_ev n i l p (by omega) hs hy (by omega) hp hz) ?_
          simp only [if_true]
          have h2 := same13_ev (rebuildW n i l p).1 (rebuildW n i l p).1 (Nat.le_trans (rebuildW_small n i l p (by omega) hs hp) (by decide))
          rw [decide_eq_true rfl] at h2
          refine Ev.bind h2 ?_
          simp only [if_true]
          refine Ev.bind (verify_ev r n i l p (by omega) hs hy (by omega) hp hz hr) ?_
          refine Ev.bind (refverify_ev r n i l p (by omega) hs hy (by omega) hp hz) ?_
          rw [beq_self_eq_true]
          exact Ev.now _
    · simp only [if_neg hg]
      exact hup
  · simp only [if_neg hf]
    exact hup
end Go.Proofs.YtgdogjnjbinoiaaDoor.Q
