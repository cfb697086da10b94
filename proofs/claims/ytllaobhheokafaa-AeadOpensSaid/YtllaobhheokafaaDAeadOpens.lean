/- The pure functions (plain Lean over whole numbers and lists) of: casketlaw17_AeadOpens. -/
import Derived.Test.YtllaobhheokafaaWWords
import Derived.Test.YtllaobhheokafaaWAll
import Derived.Test.YtllaobhheokafaaDaead
import Derived.Test.YtllaobhheokafaaDref15
import Derived.Test.YtllaobhheokafaaDref17
namespace Go.Proofs.Ytllaobhheokafaa.Q
open Go.RowKit Go.Proofs.YtllaobhheokafaaW.PrintWords Go.Proofs.YtllaobhheokafaaW.PrintLast Go.Proofs.YtllaobhheokafaaW.PrintMore
attribute [local go_sem] max2_int min2_int max_two min_two max_three min_three max_four min_four   -- for this text's walks alone
set_option linter.unusedVariables false
set_option linter.unusedSimpArgs false

/-! ### casketlaw17_AeadOpens: function 15 -/
def casketlaw17_AeadOpens.j0 : Nat → List Int → List Int → List Int → List Int → Bool → Bool → Option (Bool)
  | 0, _, _, _, _, _, _ => none
  | k + 1, x0, x1, x2, x3, x9, x22 => if x22 = true then (some x9) else ((aead_Open.f k x0 x1 x2 x3).bind fun bt761 => ((casketref17_Open.f k x0 x1 x2 x3).bind fun bt765 => (if x9 = true then (if bt761.2 = bt765.2 then ((casketlaw17_same.f k bt761.1 bt765.1).bind fun t769 => (some t769)) else (some false)) else (some false))))

def casketlaw17_AeadOpens.f (k : Nat) (l0 : List Int) (l1 : List Int) (l2 : List Int) (l3 : List Int) : Option (Bool) := (casketlaw17_awake.f k).bind fun t760 => (if (l2.length : Int) > 300 then (casketlaw17_AeadOpens.j0 k l0 l1 l2 l3 t760 true) else (casketlaw17_AeadOpens.j0 k l0 l1 l2 l3 t760 (decide ((l3.length : Int) > 600))))

theorem casketlaw17_AeadOpens.mono_l : ∀ k, (∀ y0 y1 y2 y3 y4 y5, LeO (casketlaw17_AeadOpens.j0 k y0 y1 y2 y3 y4 y5) (casketlaw17_AeadOpens.j0 (k + 1) y0 y1 y2 y3 y4 y5))
  | 0 => fun _ _ _ _ _ _ r h => by simp [casketlaw17_AeadOpens.j0] at h
  | k + 1 => by
    have ih0 := casketlaw17_AeadOpens.mono_l k
    · intro y0 y1 y2 y3 y4 y5
      unfold casketlaw17_AeadOpens.j0
      repeat' first
      | (with_reducible exact ih0 _ _ _ _ _ _)
      | (with_reducible exact aead_Open.mono _ _ _ _ _)
      | (with_reducible exact casketlaw17_awake.mono _)
      | (with_reducible exact casketlaw17_same.mono _ _ _)
      | (with_reducible exact casketref17_Open.mono _ _ _ _ _)
      | (with_reducible exact LeO.refl _)
      | (with_reducible exact LeO.none _)
      | (with_reducible refine LeO.ite ?_ ?_)
      | (with_reducible refine LeO.bind ?_ (fun _ => ?_))
      | exact ih0 _ _ _ _ _ _
      | exact aead_Open.mono _ _ _ _ _
      | exact casketlaw17_awake.mono _
      | exact casketlaw17_same.mono _ _ _
      | exact casketref17_Open.mono _ _ _ _ _
      | exact LeO.none _
      | refine LeO.ite ?_ ?_
      | refine LeO.bind ?_ (fun _ => ?_)

theorem casketlaw17_AeadOpens.mono : ∀ a0 a1 a2 a3 k, LeO (casketlaw17_AeadOpens.f k a0 a1 a2 a3) (casketlaw17_AeadOpens.f (k + 1) a0 a1 a2 a3) := by
  intro a0 a1 a2 a3 k
  have ih0 := casketlaw17_AeadOpens.mono_l k
  unfold casketlaw17_AeadOpens.f
  repeat' first
      | (with_reducible exact ih0 _ _ _ _ _ _)
      | (with_reducible exact aead_Open.mono _ _ _ _ _)
      | (with_reducible exact casketlaw17_awake.mono _)
      | (with_reducible exact casketlaw17_same.mono _ _ _)
      | (with_reducible exact casketref17_Open.mono _ _ _ _ _)
      | (with_reducible exact LeO.refl _)
      | (with_reducible exact LeO.none _)
      | (with_reducible refine LeO.ite ?_ ?_)
      | (with_reducible refine LeO.bind ?_ (fun _ => ?_))
      | exact ih0 _ _ _ _ _ _
      | exact aead_Open.mono _ _ _ _ _
      | exact casketlaw17_awake.mono _
      | exact casketlaw17_same.mono _ _ _
      | exact casketref17_Open.mono _ _ _ _ _
      | exact LeO.none _
      | refine LeO.ite ?_ ?_
      | refine LeO.bind ?_ (fun _ => ?_)

/-- THE ONE PURE STATEMENT of casketlaw17_AeadOpens: yours. -/
def casketlaw17_AeadOpens.Pure : Prop := ∀ (l0 : List Int) (l1 : List Int) (l2 : List Int) (l3 : List Int), l0.length ≤ maxLen → l0.length * 1 ≤ 140737488351232 → (∀ x ∈ l0, (Lit.int .u8 x).wf = true) → l1.length ≤ maxLen → l1.length * 1 ≤ 140737488351232 → (∀ x ∈ l1, (Lit.int .u8 x).wf = true) → l2.length ≤ maxLen → l2.length * 1 ≤ 140737488351232 → (∀ x ∈ l2, (Lit.int .u8 x).wf = true) → l3.length ≤ maxLen → l3.length * 1 ≤ 140737488351232 → (∀ x ∈ l3, (Lit.int .u8 x).wf = true) → ∃ k, casketlaw17_AeadOpens.f k l0 l1 l2 l3 = some true

end Go.Proofs.Ytllaobhheokafaa.Q
