/- The pure functions (plain Lean over whole numbers and lists) of: casketlaw16_PolyWhole. -/
import Derived.Test.YtllaobhheokafaaWWords
import Derived.Test.YtllaobhheokafaaWAll
import Derived.Test.YtllaobhheokafaaDpoly
import Derived.Test.YtllaobhheokafaaDref15
namespace Go.Proofs.Ytllaobhheokafaa.Q
open Go.RowKit Go.Proofs.YtllaobhheokafaaW.PrintWords Go.Proofs.YtllaobhheokafaaW.PrintLast Go.Proofs.YtllaobhheokafaaW.PrintMore
attribute [local go_sem] max2_int min2_int max_two min_two max_three min_three max_four min_four   -- for this text's walks alone
set_option linter.unusedVariables false
set_option linter.unusedSimpArgs false

/-! ### casketlaw16_PolyWhole: function 13 -/
def casketlaw16_PolyWhole.f (k : Nat) (l0 : List Int) : Option (Bool) := (casketlaw16_awake.f).bind fun t549 => (if (l0.length : Int) = 16 then (if 32 ≤ 281474976710656 then ((some (List.replicate 32 0 : List Int)).bind fun y550 => (if 0 < (y550.length : Int) then ((some (y550.set (0 : Int).toNat 1 : List Int)).bind fun y553 => ((poly_MAC.f y553 l0).bind fun bt554 => ((some (([] : List Int) : List Int)).bind fun y558 => (if y558.length + l0.length < 140737488355328 then ((some (y558 ++ l0 : List Int)).bind fun y561 => (if y561.length + 16 < 140737488355328 then ((poly_MAC.f y553 (y561 ++ List.replicate 16 0)).bind fun bt567 => (if t549 = true then (if bt554.2 = 0 then (if bt567.2 = 0 then ((casketlaw16_same.f k bt554.1 l0).bind fun t571 => (if t571 = true then ((casketlaw16_same.f k bt567.1 l0).bind fun t572 => (some t572)) else (some false))) else (some false)) else (some false)) else (some false))) else (none))) else (none))))) else (none))) else (none)) else (some t549))

theorem casketlaw16_PolyWhole.mono : ∀ a0 k, LeO (casketlaw16_PolyWhole.f k a0) (casketlaw16_PolyWhole.f (k + 1) a0) := by
  intro a0 k
  unfold casketlaw16_PolyWhole.f
  repeat' first
      | (with_reducible exact casketlaw16_same.mono _ _ _)
      | (with_reducible exact LeO.refl _)
      | (with_reducible exact LeO.none _)
      | (with_reducible refine LeO.ite ?_ ?_)
      | (with_reducible refine LeO.bind ?_ (fun _ => ?_))
      | exact casketlaw16_same.mono _ _ _
      | exact LeO.none _
      | refine LeO.ite ?_ ?_
      | refine LeO.bind ?_ (fun _ => ?_)

/-- THE ONE PURE STATEMENT of casketlaw16_PolyWhole: yours. -/
def casketlaw16_PolyWhole.Pure : Prop := ∀ (l0 : List Int), l0.length ≤ maxLen → l0.length * 1 ≤ 140737488351232 → (∀ x ∈ l0, (Lit.int .u8 x).wf = true) → ∃ k, casketlaw16_PolyWhole.f k l0 = some true

end Go.Proofs.Ytllaobhheokafaa.Q
