/- The pure functions (plain Lean over whole numbers and lists) of: casketlaw14_HmacExpands. -/
import Derived.Test.YtgdogjnjbinoiaaWWords
import Derived.Test.YtgdogjnjbinoiaaWAll
import Derived.Test.YtgdogjnjbinoiaaDhmac
import Derived.Test.YtgdogjnjbinoiaaDref13
import Derived.Test.YtgdogjnjbinoiaaDref14
namespace Go.Proofs.Ytgdogjnjbinoiaa.Q
open Go.RowKit Go.Proofs.YtgdogjnjbinoiaaW.PrintWords Go.Proofs.YtgdogjnjbinoiaaW.PrintLast Go.Proofs.YtgdogjnjbinoiaaW.PrintMore
attribute [local go_sem] max2_int min2_int max_two min_two max_three min_three max_four min_four   -- for this text's walks alone
set_option linter.unusedVariables false
set_option linter.unusedSimpArgs false

/-! ### casketlaw14_HmacExpands: function 13 -/
def casketlaw14_HmacExpands.j0 : Nat → List Int → List Int → Int → Bool → Bool → Option (Bool)
  | 0, _, _, _, _, _ => none
  | k + 1, x0, x1, x2, x7, x28 => if x28 = true then (some x7) else ((hmac_Expand.f x0 x1 x2).bind fun bt434 => ((casketref14_Expand.f k x0 x1 x2).bind fun bt438 => (if x7 = true then (if bt434.2 = bt438.2 then ((casketlaw14_same.f k bt434.1 bt438.1).bind fun t442 => (some t442)) else (some false)) else (some false))))

def casketlaw14_HmacExpands.f (k : Nat) (l0 : List Int) (l1 : List Int) (a2 : Int) : Option (Bool) := (casketlaw14_awake.f k).bind fun t433 => (if (l0.length : Int) > 300 then (casketlaw14_HmacExpands.j0 k l0 l1 a2 t433 true) else (if (l1.length : Int) > 300 then (casketlaw14_HmacExpands.j0 k l0 l1 a2 t433 true) else (if a2 > 400 then (casketlaw14_HmacExpands.j0 k l0 l1 a2 t433 (decide (a2 ≤ 8160))) else (casketlaw14_HmacExpands.j0 k l0 l1 a2 t433 false))))

theorem casketlaw14_HmacExpands.mono_l : ∀ k, (∀ y0 y1 y2 y3 y4, LeO (casketlaw14_HmacExpands.j0 k y0 y1 y2 y3 y4) (casketlaw14_HmacExpands.j0 (k + 1) y0 y1 y2 y3 y4))
  | 0 => fun _ _ _ _ _ r h => by simp [casketlaw14_HmacExpands.j0] at h
  | k + 1 => by
    have ih0 := casketlaw14_HmacExpands.mono_l k
    · intro y0 y1 y2 y3 y4
      unfold casketlaw14_HmacExpands.j0
      repeat' first
      | (with_reducible exact ih0 _ _ _ _ _)
      | (with_reducible exact casketlaw14_awake.mono _)
      | (with_reducible exact casketlaw14_same.mono _ _ _)
      | (with_reducible exact casketref14_Expand.mono _ _ _ _)
      | (with_reducible exact LeO.refl _)
      | (with_reducible exact LeO.none _)
      | (with_reducible refine LeO.ite ?_ ?_)
      | (with_reducible refine LeO.bind ?_ (fun _ => ?_))
      | exact ih0 _ _ _ _ _
      | exact casketlaw14_awake.mono _
      | exact casketlaw14_same.mono _ _ _
      | exact casketref14_Expand.mono _ _ _ _
      | exact LeO.none _
      | refine LeO.ite ?_ ?_
      | refine LeO.bind ?_ (fun _ => ?_)

theorem casketlaw14_HmacExpands.mono : ∀ a0 a1 a2 k, LeO (casketlaw14_HmacExpands.f k a0 a1 a2) (casketlaw14_HmacExpands.f (k + 1) a0 a1 a2) := by
  intro a0 a1 a2 k
  have ih0 := casketlaw14_HmacExpands.mono_l k
  unfold casketlaw14_HmacExpands.f
  repeat' first
      | (with_reducible exact ih0 _ _ _ _ _)
      | (with_reducible exact casketlaw14_awake.mono _)
      | (with_reducible exact casketlaw14_same.mono _ _ _)
      | (with_reducible exact casketref14_Expand.mono _ _ _ _)
      | (with_reducible exact LeO.refl _)
      | (with_reducible exact LeO.none _)
      | (with_reducible refine LeO.ite ?_ ?_)
      | (with_reducible refine LeO.bind ?_ (fun _ => ?_))
      | exact ih0 _ _ _ _ _
      | exact casketlaw14_awake.mono _
      | exact casketlaw14_same.mono _ _ _
      | exact casketref14_Expand.mono _ _ _ _
      | exact LeO.none _
      | refine LeO.ite ?_ ?_
      | refine LeO.bind ?_ (fun _ => ?_)

/-- THE ONE PURE STATEMENT of casketlaw14_HmacExpands: yours. -/
def casketlaw14_HmacExpands.Pure : Prop := ∀ (l0 : List Int) (l1 : List Int) (a2 : Int), l0.length ≤ maxLen → l0.length * 1 ≤ 140737488351232 → (∀ x ∈ l0, (Lit.int .u8 x).wf = true) → l1.length ≤ maxLen → l1.length * 1 ≤ 140737488351232 → (∀ x ∈ l1, (Lit.int .u8 x).wf = true) → (Lit.int .i64 a2).wf = true → ∃ k, casketlaw14_HmacExpands.f k l0 l1 a2 = some true

end Go.Proofs.Ytgdogjnjbinoiaa.Q
