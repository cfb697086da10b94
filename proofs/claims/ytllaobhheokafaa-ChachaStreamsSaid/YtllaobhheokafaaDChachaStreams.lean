/- The pure functions (plain Lean over whole numbers and lists) of: casketlaw15_ChachaStreams. -/
import Derived.Test.YtllaobhheokafaaWWords
import Derived.Test.YtllaobhheokafaaWLast
import Derived.Test.YtllaobhheokafaaWMore
import Derived.Test.YtllaobhheokafaaDchacha
import Derived.Test.YtllaobhheokafaaDref15
namespace Go.Proofs.Ytllaobhheokafaa.Q
open Go.RowKit Go.Proofs.YtllaobhheokafaaW.PrintWords Go.Proofs.YtllaobhheokafaaW.PrintLast Go.Proofs.YtllaobhheokafaaW.PrintMore
attribute [local go_sem] max2_int min2_int max_two min_two max_three min_three max_four min_four   -- for this text's walks alone
set_option linter.unusedVariables false
set_option linter.unusedSimpArgs false

/-! ### casketlaw15_ChachaStreams: function 5 -/
def casketlaw15_ChachaStreams.f (k : Nat) (l0 : List Int) (a1 : Int) (l2 : List Int) (l3 : List Int) : Option (Bool) := (casketlaw15_awake.f).bind fun t212 => (if (l3.length : Int) > 1000 then (some t212) else ((chacha_Stream.f k l0 a1 l2 l3).bind fun bt213 => ((casketref15_Stream.f k l0 a1 l2 l3).bind fun bt217 => (if t212 = true then (if bt213.2 = bt217.2 then ((casketlaw15_same.f k bt213.1 bt217.1).bind fun t221 => (some t221)) else (some false)) else (some false)))))

theorem casketlaw15_ChachaStreams.mono : ∀ a0 a1 a2 a3 k, LeO (casketlaw15_ChachaStreams.f k a0 a1 a2 a3) (casketlaw15_ChachaStreams.f (k + 1) a0 a1 a2 a3) := by
  intro a0 a1 a2 a3 k
  unfold casketlaw15_ChachaStreams.f
  repeat' first
      | (with_reducible exact casketlaw15_same.mono _ _ _)
      | (with_reducible exact casketref15_Stream.mono _ _ _ _ _)
      | (with_reducible exact chacha_Stream.mono _ _ _ _ _)
      | (with_reducible exact LeO.refl _)
      | (with_reducible exact LeO.none _)
      | (with_reducible refine LeO.ite ?_ ?_)
      | (with_reducible refine LeO.bind ?_ (fun _ => ?_))
      | exact casketlaw15_same.mono _ _ _
      | exact casketref15_Stream.mono _ _ _ _ _
      | exact chacha_Stream.mono _ _ _ _ _
      | exact LeO.none _
      | refine LeO.ite ?_ ?_
      | refine LeO.bind ?_ (fun _ => ?_)

/-- THE ONE PURE STATEMENT of casketlaw15_ChachaStreams: yours. -/
def casketlaw15_ChachaStreams.Pure : Prop := ∀ (l0 : List Int) (a1 : Int) (l2 : List Int) (l3 : List Int), l0.length ≤ maxLen → l0.length * 1 ≤ 140737488351232 → (∀ x ∈ l0, (Lit.int .u8 x).wf = true) → (Lit.int .u32 a1).wf = true → l2.length ≤ maxLen → l2.length * 1 ≤ 140737488351232 → (∀ x ∈ l2, (Lit.int .u8 x).wf = true) → l3.length ≤ maxLen → l3.length * 1 ≤ 140737488351232 → (∀ x ∈ l3, (Lit.int .u8 x).wf = true) → ∃ k, casketlaw15_ChachaStreams.f k l0 a1 l2 l3 = some true

end Go.Proofs.Ytllaobhheokafaa.Q
