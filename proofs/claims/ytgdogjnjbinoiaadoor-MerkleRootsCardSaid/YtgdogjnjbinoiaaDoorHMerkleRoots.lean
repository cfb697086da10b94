/- The sums of any leaves are the document's. No program in sight. -/
import Derived.Test.YtgdogjnjbinoiaaDoorHmr
import Derived.Test.YtgdogjnjbinoiaaDoorDMerkleRoots
namespace Go.Proofs.YtgdogjnjbinoiaaDoor.Q
open Go.RowKit Go.Proofs.YtgdogjnjbinoiaaDoorW.PrintWords Go.Proofs.YtgdogjnjbinoiaaDoorW.PrintLast Go.Proofs.YtgdogjnjbinoiaaDoorW.PrintMore Go.Proofs.YtgdogjnjbinoiaaDoor.F
set_option linter.unusedVariables false
set_option linter.unusedSimpArgs false
theorem MerkleRoots_ev (a b : List Int) (l : List (List Int)) (ha : Bytes a) (hb : Bytes b) (hy : AllBytes l) : Ev (fun k => casketlaw20_MerkleRoots.f k a b l) true := by
  unfold casketlaw20_MerkleRoots.f
  refine Ev.bind awake_ev ?_
  have hup : Ev (fun k => casketlaw20_MerkleRoots.j0 k a b l true true) true := by
    refine Ev.step (f := fun _ => some true) (fun k => ?_) (Ev.now _)
    simp only [casketlaw20_MerkleRoots.j0, if_true]
  by_cases c1 : (a.length : Int) > 300
  · simp only [if_pos c1]
    exact hup
  · simp only [if_neg c1]
    by_cases c2 : (b.length : Int) > 300
    · simp only [if_pos c2]
      exact hup
    · simp only [if_neg c2]
      refine Ev.bind (few_ev l 70 (by decide)) ?_
      by_cases hf : fewB l 70 = true
      · obtain ⟨hl, hs⟩ := fewB_small hf
        simp only [hf, Bool.not_true]
        refine Ev.step (f := fun k => (casketref20_Leaf.f k a).bind fun t399 => ((casketlaw20_same.f k (shaW (0 :: a)) t399).bind fun t402 => (if t402 = true then ((casketref20_Node.f k a b).bind fun t406 => ((casketlaw20_same.f k (nodeW a b) t406).bind fun t409 => (if t409 = true then ((casketref20_Root.f k l).bind fun t413 => ((casketlaw20_same.f k (rootW l) t413).bind fun t416 => (some t416))) else (some false)))) else (some false)))) (fun k => ?_) ?_
        · simp only [casketlaw20_MerkleRoots.j0]
          rw [if_neg (by decide), if_pos trivial, leaf_f a (by omega), node_f a b (by omega) (by omega), root_f l (by omega) hs]
          rfl
        · refine Ev.bind (refleaf_ev a (by omega) ha) ?_
          have h1 := same13_ev (shaW (0 :: a)) (shaW (0 :: a)) (by rw [shaW_length]; decide)
          rw [decide_eq_true rfl] at h1
          refine Ev.bind h1 ?_
          simp only [if_true]
          refine Ev.bind (refnode_ev a b (by omega) (by omega) ha hb) ?_
          have h2 := same13_ev (nodeW a b) (nodeW a b) (by rw [nodeW_length]; decide)
          rw [decide_eq_true rfl] at h2
          refine Ev.bind h2 ?_
          simp only [if_true]
          refine Ev.bind (refroot_ev l.length l rfl (by omega) hs hy) ?_
          have h3 := same13_ev (rootW l) (rootW l) (Nat.le_trans (rootW_small hs (by omega)) (by decide))
          rw [decide_eq_true rfl] at h3
          exact Ev.bind h3 (Ev.now _)
      · simp only [hf, Bool.not_false]
        exact hup
end Go.Proofs.YtgdogjnjbinoiaaDoor.Q
