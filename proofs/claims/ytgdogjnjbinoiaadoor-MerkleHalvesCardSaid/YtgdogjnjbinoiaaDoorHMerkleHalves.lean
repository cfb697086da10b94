/- The root of a list is that of its halves' roots. No program in sight. -/
import Derived.Test.YtgdogjnjbinoiaaDoorHmr
import Derived.Test.YtgdogjnjbinoiaaDoorDMerkleHalves
namespace Go.Proofs.YtgdogjnjbinoiaaDoor.Q
open Go.RowKit Go.Proofs.YtgdogjnjbinoiaaDoorW.PrintWords Go.Proofs.YtgdogjnjbinoiaaDoorW.PrintLast Go.Proofs.YtgdogjnjbinoiaaDoorW.PrintMore Go.Proofs.YtgdogjnjbinoiaaDoor.F
set_option linter.unusedVariables false
set_option linter.unusedSimpArgs false
theorem MerkleHalves_ev (l : List (List Int)) : Ev (fun k => casketlaw20_MerkleHalves.f k l) true := by
  unfold casketlaw20_MerkleHalves.f
  refine Ev.bind awake_ev (Ev.bind (few_ev l 70 (by decide)) ?_)
  have hup : Ev (fun k => casketlaw20_MerkleHalves.j0 k l true true) true := by
    refine Ev.step (f := fun _ => some true) (fun k => ?_) (Ev.now _)
    simp only [casketlaw20_MerkleHalves.j0, if_true]
  by_cases hf : fewB l 70 = true
  · obtain ⟨hl, hs⟩ := fewB_small hf
    simp only [hf, if_true]
    by_cases h0 : l.length = 0
    · rw [show ((l.length : Int) == 0) = true by rw [beq_iff_eq]; omega]
      exact hup
    · rw [show ((l.length : Int) == 0) = false by rw [beq_eq_false_iff_ne]; omega]
      by_cases h1 : l.length = 1
      · refine Ev.step (f := fun k => (casketlaw20_same.f k (rootW l) (rd_L1 l 0)).bind fun t356 => (some t356)) (fun k => ?_) ?_
        · simp only [casketlaw20_MerkleHalves.j0]
          rw [if_neg (by decide), if_pos (by omega), if_pos trivial, root_f l (by omega) hs, Option.bind_some, if_pos (by omega)]
        · have h2 := same13_ev (rootW l) (rd_L1 l 0) (Nat.le_trans (rootW_small hs (by omega)) (by decide))
          rw [decide_eq_true (rootW_one l h1)] at h2
          exact Ev.bind h2 (Ev.now _)
      · have k1 := halfW_lt l.length (by omega)
        have k2 := halfW_pos l.length
        have e1 := rootW_half l (by omega) (by omega)
        refine Ev.step (f := fun k => (casketref20_Half.f k (l.length : Int)).bind fun t357 => (if true = true then ((merkle_Root.f l).bind fun t358 => (if 0 ≤ t357 then (if t357 ≤ (l.length : Int) then ((merkle_Root.f (l.take (t357 : Int).toNat)).bind fun t365 => ((merkle_Root.f (l.drop (t357 : Int).toNat)).bind fun t372 => ((merkle_Node.f t365 t372).bind fun t375 => ((casketlaw20_same.f k t358 t375).bind fun t378 => (some t378))))) else (none)) else (none))) else (some false))) (fun k => ?_) ?_
        · simp only [casketlaw20_MerkleHalves.j0]
          rw [if_neg (by decide), if_neg (by omega)]
        · refine Ev.bind (half_ev l.length (by omega) (by omega)) ?_
          rw [root_f l (by omega) hs]
          simp only [if_true, Option.bind_some, if_pos (show (0 : Int) ≤ ((halfW l.length : Nat) : Int) by omega), if_pos (show ((halfW l.length : Nat) : Int) ≤ (l.length : Int) by omega), Int.toNat_natCast]
          rw [root_f (l.take (halfW l.length)) (by rw [List.length_take]; omega) (hs.take _), root_f (l.drop (halfW l.length)) (by rw [List.length_drop]; omega) (hs.drop _)]
          simp only [Option.bind_some]
          rw [node_f _ _ (rootW_small (hs.take _) (by rw [List.length_take]; omega)) (rootW_small (hs.drop _) (by rw [List.length_drop]; omega)), ← e1]
          simp only [Option.bind_some]
          have h2 := same13_ev (rootW l) (rootW l) (Nat.le_trans (rootW_small hs (by omega)) (by decide))
          rw [decide_eq_true rfl] at h2
          exact Ev.bind h2 (Ev.now _)
  · simp only [if_neg hf]
    exact hup
end Go.Proofs.YtgdogjnjbinoiaaDoor.Q
