/- The pure functions (plain Lean over whole numbers and lists) of: casketlaw13_ShaSums. -/
import Derived.Test.YtgdogjnjbinoiaaWWords
import Derived.Test.YtgdogjnjbinoiaaWAll
import Derived.Test.YtgdogjnjbinoiaaDref13
import Derived.Test.YtgdogjnjbinoiaaDsha
namespace Go.Proofs.Ytgdogjnjbinoiaa.Q
open Go.RowKit Go.Proofs.YtgdogjnjbinoiaaW.PrintWords Go.Proofs.YtgdogjnjbinoiaaW.PrintLast Go.Proofs.YtgdogjnjbinoiaaW.PrintMore
attribute [local go_sem] max2_int min2_int max_two min_two max_three min_three max_four min_four   -- for this text's walks alone
set_option linter.unusedVariables false
set_option linter.unusedSimpArgs false

/-! ### casketlaw13_ShaSums: function 3 -/
def casketlaw13_ShaSums.f (k : Nat) (l0 : List Int) : Option (Bool) := (casketlaw13_awake.f).bind fun t228 => (if (l0.length : Int) > 4000 then (some t228) else (if t228 = true then ((sha_Sum.f l0).bind fun t229 => ((casketref13_Sum.f k l0).bind fun t232 => ((casketlaw13_same.f k t229 t232).bind fun t235 => (some t235)))) else (some false)))

theorem casketlaw13_ShaSums.mono : ∀ a0 k, LeO (casketlaw13_ShaSums.f k a0) (casketlaw13_ShaSums.f (k + 1) a0) := by
  intro a0 k
  unfold casketlaw13_ShaSums.f
  repeat' first
      | (with_reducible exact casketlaw13_same.mono _ _ _)
      | (with_reducible exact casketref13_Sum.mono _ _)
      | (with_reducible exact LeO.refl _)
      | (with_reducible exact LeO.none _)
      | (with_reducible refine LeO.ite ?_ ?_)
      | (with_reducible refine LeO.bind ?_ (fun _ => ?_))
      | exact casketlaw13_same.mono _ _ _
      | exact casketref13_Sum.mono _ _
      | exact LeO.none _
      | refine LeO.ite ?_ ?_
      | refine LeO.bind ?_ (fun _ => ?_)

/-- THE ONE PURE STATEMENT of casketlaw13_ShaSums: yours. -/
def casketlaw13_ShaSums.Pure : Prop := ∀ (l0 : List Int), l0.length ≤ maxLen → l0.length * 1 ≤ 140737488351232 → (∀ x ∈ l0, (Lit.int .u8 x).wf = true) → ∃ k, casketlaw13_ShaSums.f k l0 = some true

end Go.Proofs.Ytgdogjnjbinoiaa.Q
