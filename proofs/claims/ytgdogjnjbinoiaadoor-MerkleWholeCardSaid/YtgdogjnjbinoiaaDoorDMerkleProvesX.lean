/- The pure functions (plain Lean over whole numbers and lists) of: casketlaw20_MerkleProves.
   The proof of any range is the document's. No program in sight. -/
import Derived.Test.YtgdogjnjbinoiaaDoorWWordsX
import Derived.Test.YtgdogjnjbinoiaaDoorDmerkw
import Derived.Test.YtgdogjnjbinoiaaDoorDmprove
import Derived.Test.YtgdogjnjbinoiaaDoorDref13
import Derived.Test.YtgdogjnjbinoiaaDoorDref20
import Derived.Test.YtgdogjnjbinoiaaDoorHmr
/-! ### DMerkleProves -/
section
namespace Go.Proofs.YtgdogjnjbinoiaaDoor.Q
open Go.RowKit Go.Proofs.YtgdogjnjbinoiaaDoorW.PrintWords Go.Proofs.YtgdogjnjbinoiaaDoorW.PrintLast Go.Proofs.YtgdogjnjbinoiaaDoorW.PrintMore
attribute [local go_sem] max2_int min2_int max_two min_two max_three min_three max_four min_four   -- for this text's walks alone
set_option linter.unusedVariables false
set_option linter.unusedSimpArgs false

/-! ### casketlaw20_MerkleProves: function 3 -/
def casketlaw20_MerkleProves.f (k : Nat) (l0 : List (List Int)) (a1 : Int) (a2 : Int) : Option (Bool) := (casketlaw20_awake.f k).bind fun t339 => ((casketlaw20_few.f k l0 70).bind fun t340 => (if t340 = true then ((merkle_Prove.f l0 a1 a2).bind fun bt341 => ((casketref20_Prove.f k l0 a1 a2).bind fun bt345 => (if t339 = true then (if bt341.2 = bt345.2 then ((casketref20_Same.f k bt341.1 bt345.1).bind fun t349 => (some t349)) else (some false)) else (some false)))) else (some t339)))

theorem casketlaw20_MerkleProves.mono : ∀ a0 a1 a2 k, LeO (casketlaw20_MerkleProves.f k a0 a1 a2) (casketlaw20_MerkleProves.f (k + 1) a0 a1 a2) := by
  intro a0 a1 a2 k
  unfold casketlaw20_MerkleProves.f
  repeat' first
      | (with_reducible exact casketlaw20_awake.mono _)
      | (with_reducible exact casketlaw20_few.mono _ _ _)
      | (with_reducible exact casketref20_Prove.mono _ _ _ _)
      | (with_reducible exact casketref20_Same.mono _ _ _)
      | (with_reducible exact LeO.refl _)
      | (with_reducible exact LeO.none _)
      | (with_reducible refine LeO.ite ?_ ?_)
      | (with_reducible refine LeO.bind ?_ (fun _ => ?_))
      | exact casketlaw20_awake.mono _
      | exact casketlaw20_few.mono _ _ _
      | exact casketref20_Prove.mono _ _ _ _
      | exact casketref20_Same.mono _ _ _
      | exact LeO.none _
      | refine LeO.ite ?_ ?_
      | refine LeO.bind ?_ (fun _ => ?_)

end Go.Proofs.YtgdogjnjbinoiaaDoor.Q
end
/-! ### HMerkleProves -/
section
namespace Go.Proofs.YtgdogjnjbinoiaaDoor.Q
open Go.RowKit Go.Proofs.YtgdogjnjbinoiaaDoorW.PrintWords Go.Proofs.YtgdogjnjbinoiaaDoorW.PrintLast Go.Proofs.YtgdogjnjbinoiaaDoorW.PrintMore Go.Proofs.YtgdogjnjbinoiaaDoor.F
set_option linter.unusedVariables false
set_option linter.unusedSimpArgs false
theorem walkW_small (f : Nat) (l : List (List Int)) (lo hi : Nat) (i j : Int) (hs : Small l) (hl : l.length ≤ 1000) : Small (walkW f l lo hi i j) := by
  induction f generalizing lo hi with
  | zero => intro x hx; cases hx
  | succ f ih =>
    intro x hx
    rw [walkW] at hx
    split at hx
    · cases hx
    · split at hx
      · rw [List.mem_singleton] at hx
        rw [hx]
        exact rootW_small ((hs.take hi).drop lo) (by rw [List.length_drop, List.length_take]; omega)
      · rcases List.mem_append.mp hx with hx | hx
        · exact ih _ _ x hx
        · exact ih _ _ x hx
theorem proveW_small (l : List (List Int)) (i j : Int) (hs : Small l) (hl : l.length ≤ 1000) : Small (proveW l i j).1 ∧ (proveW l i j).1.length ≤ l.length := by
  rw [proveW]
  split
  · exact ⟨fun x hx => (List.not_mem_nil hx).elim, Nat.zero_le _⟩
  · refine ⟨walkW_small _ _ _ _ _ _ hs hl, ?_⟩
    have := walkW_length l.length l 0 l.length i j (by omega)
    show (walkW l.length l 0 l.length i j).length ≤ _
    omega
theorem MerkleProves_ev (l : List (List Int)) (i j : Int) (hy : AllBytes l) : Ev (fun k => casketlaw20_MerkleProves.f k l i j) true := by
  unfold casketlaw20_MerkleProves.f
  refine Ev.bind awake_ev (Ev.bind (few_ev l 70 (by decide)) ?_)
  by_cases hf : fewB l 70 = true
  · obtain ⟨hl, hs⟩ := fewB_small hf
    obtain ⟨p1, p2⟩ := proveW_small l i j hs (by omega)
    simp only [hf, if_true, prove_f l i j (by omega) hs, Option.bind_some]
    refine Ev.bind (refprove_ev l i j (by omega) hs hy) ?_
    simp only [if_true]
    have h2 := sames_ev (proveW l i j).1 (proveW l i j).1 (by omega) p1
    rw [decide_eq_true rfl] at h2
    exact Ev.bind h2 (Ev.now _)
  · simp only [if_neg hf]
    exact Ev.now _
end Go.Proofs.YtgdogjnjbinoiaaDoor.Q
end
