/- The pure functions (plain Lean over whole numbers and lists) of: casketlaw15_ChachaBlocks. -/
import Derived.Test.YtllaobhheokafaaWWords
import Derived.Test.YtllaobhheokafaaWLast
import Derived.Test.YtllaobhheokafaaWMore
import Derived.Test.YtllaobhheokafaaDchacha
import Derived.Test.YtllaobhheokafaaDref15
namespace Go.Proofs.Ytllaobhheokafaa.Q
open Go.RowKit Go.Proofs.YtllaobhheokafaaW.PrintWords Go.Proofs.YtllaobhheokafaaW.PrintLast Go.Proofs.YtllaobhheokafaaW.PrintMore
attribute [local go_sem] max2_int min2_int max_two min_two max_three min_three max_four min_four   -- for this text's walks alone
set_option linter.unusedVariables false
set_option linter.unusedSimpArgs false

/-! ### casketlaw15_ChachaBlocks: function 4 -/
def casketlaw15_ChachaBlocks.f (k : Nat) (l0 : List Int) (a1 : Int) (l2 : List Int) : Option (Bool) := (casketlaw15_awake.f).bind fun t182 => ((chacha_Block.f l0 a1 l2).bind fun bt183 => ((casketref15_Block.f k l0 a1 l2).bind fun bt187 => (if t182 = true then (if bt183.2 = bt187.2 then ((casketlaw15_same.f k bt183.1 bt187.1).bind fun t191 => (some t191)) else (some false)) else (some false))))

theorem casketlaw15_ChachaBlocks.mono : ∀ a0 a1 a2 k, LeO (casketlaw15_ChachaBlocks.f k a0 a1 a2) (casketlaw15_ChachaBlocks.f (k + 1) a0 a1 a2) := by
  intro a0 a1 a2 k
  unfold casketlaw15_ChachaBlocks.f
  repeat' first
      | (with_reducible exact casketlaw15_same.mono _ _ _)
      | (with_reducible exact casketref15_Block.mono _ _ _ _)
      | (with_reducible exact LeO.refl _)
      | (with_reducible exact LeO.none _)
      | (with_reducible refine LeO.ite ?_ ?_)
      | (with_reducible refine LeO.bind ?_ (fun _ => ?_))
      | exact casketlaw15_same.mono _ _ _
      | exact casketref15_Block.mono _ _ _ _
      | exact LeO.none _
      | refine LeO.ite ?_ ?_
      | refine LeO.bind ?_ (fun _ => ?_)

/-- THE ONE PURE STATEMENT of casketlaw15_ChachaBlocks: yours. -/
def casketlaw15_ChachaBlocks.Pure : Prop := ∀ (l0 : List Int) (a1 : Int) (l2 : List Int), l0.length ≤ maxLen → l0.length * 1 ≤ 140737488351232 → (∀ x ∈ l0, (Lit.int .u8 x).wf = true) → (Lit.int .u32 a1).wf = true → l2.length ≤ maxLen → l2.length * 1 ≤ 140737488351232 → (∀ x ∈ l2, (Lit.int .u8 x).wf = true) → ∃ k, casketlaw15_ChachaBlocks.f k l0 a1 l2 = some true

end Go.Proofs.Ytllaobhheokafaa.Q
