/- The pure functions (plain Lean over whole numbers and lists) of: casketlaw16_PolyTags. -/
import Derived.Test.YtllaobhheokafaaWWords
import Derived.Test.YtllaobhheokafaaWAll
import Derived.Test.YtllaobhheokafaaDpoly
import Derived.Test.YtllaobhheokafaaDref15
import Derived.Test.YtllaobhheokafaaDref16
namespace Go.Proofs.Ytllaobhheokafaa.Q
open Go.RowKit Go.Proofs.YtllaobhheokafaaW.PrintWords Go.Proofs.YtllaobhheokafaaW.PrintLast Go.Proofs.YtllaobhheokafaaW.PrintMore
attribute [local go_sem] max2_int min2_int max_two min_two max_three min_three max_four min_four   -- for this text's walks alone
set_option linter.unusedVariables false
set_option linter.unusedSimpArgs false

/-! ### casketlaw16_PolyTags: function 9 -/
def casketlaw16_PolyTags.f (k : Nat) (l0 : List Int) (l1 : List Int) : Option (Bool) := (casketlaw16_awake.f).bind fun t465 => (if (l1.length : Int) > 600 then (some t465) else ((poly_MAC.f l0 l1).bind fun bt466 => ((casketref16_MAC.f k l0 l1).bind fun bt470 => (if t465 = true then (if bt466.2 = bt470.2 then ((casketlaw16_same.f k bt466.1 bt470.1).bind fun t474 => (some t474)) else (some false)) else (some false)))))

theorem casketlaw16_PolyTags.mono : ∀ a0 a1 k, LeO (casketlaw16_PolyTags.f k a0 a1) (casketlaw16_PolyTags.f (k + 1) a0 a1) := by
  intro a0 a1 k
  unfold casketlaw16_PolyTags.f
  repeat' first
      | (with_reducible exact casketlaw16_same.mono _ _ _)
      | (with_reducible exact casketref16_MAC.mono _ _ _)
      | (with_reducible exact LeO.refl _)
      | (with_reducible exact LeO.none _)
      | (with_reducible refine LeO.ite ?_ ?_)
      | (with_reducible refine LeO.bind ?_ (fun _ => ?_))
      | exact casketlaw16_same.mono _ _ _
      | exact casketref16_MAC.mono _ _ _
      | exact LeO.none _
      | refine LeO.ite ?_ ?_
      | refine LeO.bind ?_ (fun _ => ?_)

/-- THE ONE PURE STATEMENT of casketlaw16_PolyTags: yours. -/
def casketlaw16_PolyTags.Pure : Prop := ∀ (l0 : List Int) (l1 : List Int), l0.length ≤ maxLen → l0.length * 1 ≤ 140737488351232 → (∀ x ∈ l0, (Lit.int .u8 x).wf = true) → l1.length ≤ maxLen → l1.length * 1 ≤ 140737488351232 → (∀ x ∈ l1, (Lit.int .u8 x).wf = true) → ∃ k, casketlaw16_PolyTags.f k l0 l1 = some true

end Go.Proofs.Ytllaobhheokafaa.Q
