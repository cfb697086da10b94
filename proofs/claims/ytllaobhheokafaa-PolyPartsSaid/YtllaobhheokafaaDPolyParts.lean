/- The pure functions (plain Lean over whole numbers and lists) of: casketlaw16_PolyParts. -/
import Derived.Test.YtllaobhheokafaaWWords
import Derived.Test.YtllaobhheokafaaWAll
import Derived.Test.YtllaobhheokafaaDpoly
import Derived.Test.YtllaobhheokafaaDref15
import Derived.Test.YtllaobhheokafaaDref16
namespace Go.Proofs.Ytllaobhheokafaa.Q
open Go.RowKit Go.Proofs.YtllaobhheokafaaW.PrintWords Go.Proofs.YtllaobhheokafaaW.PrintLast Go.Proofs.YtllaobhheokafaaW.PrintMore
attribute [local go_sem] max2_int min2_int max_two min_two max_three min_three max_four min_four   -- for this text's walks alone
set_option linter.unusedVariables false
set_option linter.unusedSimpArgs false

/-! ### casketlaw16_PolyParts: function 10 -/
mutual

def casketlaw16_PolyParts.j0 : Nat → List Int → List Int → List Int → Bool → Bool → Option (Bool)
  | 0, _, _, _, _, _ => none
  | k + 1, x0, x1, x2, x7, x29 => if x29 = true then (some x7) else ((some (([] : List Int) : List Int)).bind fun y435 => (if y435.length + x0.length < 140737488355328 then ((some (y435 ++ x0 : List Int)).bind fun y438 => (if y438.length + x1.length < 140737488355328 then ((poly_MAC.f (y438 ++ x1) x2).bind fun bt444 => ((some (([] : List Int) : List Int)).bind fun y448 => (if y448.length + x0.length < 140737488355328 then ((some (y448 ++ x0 : List Int)).bind fun y451 => (if y451.length + 16 < 140737488355328 then ((poly_MAC.f (y451 ++ List.replicate 16 0) x2).bind fun bt457 => (if 16 ≤ 281474976710656 then ((some (List.replicate 16 0 : List Int)).bind fun y461 => (if y461.length + x1.length < 140737488355328 then ((poly_MAC.f (y461 ++ x1) x2).bind fun bt467 => ((some (([] : List Int) : List Int)).bind fun y471 => (if y471.length + x0.length < 140737488355328 then ((some (y471 ++ x0 : List Int)).bind fun y474 => (if y474.length + x1.length < 140737488355328 then ((poly_MAC.f (y474 ++ x1) ([] : List Int)).bind fun bt480 => (if bt444.2 = 0 then (if bt457.2 = 0 then (if bt467.2 = 0 then (if bt480.2 = 0 then (if (bt444.1.length : Int) = 16 then (casketlaw16_PolyParts.j1 k x1 x7 bt444.1 bt457.1 bt467.1 bt480.1 ((bt457.1.length : Int) != 16)) else (casketlaw16_PolyParts.j1 k x1 x7 bt444.1 bt457.1 bt467.1 bt480.1 true)) else (casketlaw16_PolyParts.j1 k x1 x7 bt444.1 bt457.1 bt467.1 bt480.1 true)) else (casketlaw16_PolyParts.j1 k x1 x7 bt444.1 bt457.1 bt467.1 bt480.1 true)) else (casketlaw16_PolyParts.j1 k x1 x7 bt444.1 bt457.1 bt467.1 bt480.1 true)) else (casketlaw16_PolyParts.j1 k x1 x7 bt444.1 bt457.1 bt467.1 bt480.1 true))) else (none))) else (none)))) else (none))) else (none))) else (none))) else (none)))) else (none))) else (none)))

def casketlaw16_PolyParts.j1 : Nat → List Int → Bool → List Int → List Int → List Int → List Int → Bool → Option (Bool)
  | 0, _, _, _, _, _, _, _ => none
  | k + 1, x1, x7, x8, x10, x12, x14, x90 => if x90 = true then (some false) else (if x7 = true then ((casketlaw16_plus.f k x10 x1).bind fun t484 => ((casketlaw16_same.f k x8 t484).bind fun t487 => (if t487 = true then ((casketlaw16_same.f k x12 x1).bind fun t488 => (if t488 = true then ((casketlaw16_same.f k x14 x1).bind fun t489 => (some t489)) else (some false))) else (some false)))) else (some false))
end

def casketlaw16_PolyParts.f (k : Nat) (l0 : List Int) (l1 : List Int) (l2 : List Int) : Option (Bool) := (casketlaw16_awake.f).bind fun t434 => (if (l0.length : Int) = 16 then (if (l1.length : Int) = 16 then (casketlaw16_PolyParts.j0 k l0 l1 l2 t434 (decide ((l2.length : Int) > 600))) else (casketlaw16_PolyParts.j0 k l0 l1 l2 t434 true)) else (casketlaw16_PolyParts.j0 k l0 l1 l2 t434 true))

theorem casketlaw16_PolyParts.mono_l : ∀ k, (∀ y0 y1 y2 y3 y4, LeO (casketlaw16_PolyParts.j0 k y0 y1 y2 y3 y4) (casketlaw16_PolyParts.j0 (k + 1) y0 y1 y2 y3 y4)) ∧ (∀ y0 y1 y2 y3 y4 y5 y6, LeO (casketlaw16_PolyParts.j1 k y0 y1 y2 y3 y4 y5 y6) (casketlaw16_PolyParts.j1 (k + 1) y0 y1 y2 y3 y4 y5 y6))
  | 0 => ⟨fun _ _ _ _ _ r h => by simp [casketlaw16_PolyParts.j0] at h, fun _ _ _ _ _ _ _ r h => by simp [casketlaw16_PolyParts.j1] at h⟩
  | k + 1 => by
    obtain ⟨ih0, ih1⟩ := casketlaw16_PolyParts.mono_l k
    refine ⟨?_, ?_⟩
    · intro y0 y1 y2 y3 y4
      unfold casketlaw16_PolyParts.j0
      repeat' first
      | (with_reducible exact ih0 _ _ _ _ _)
      | (with_reducible exact ih1 _ _ _ _ _ _ _)
      | (with_reducible exact casketlaw16_plus.mono _ _ _)
      | (with_reducible exact casketlaw16_same.mono _ _ _)
      | (with_reducible exact LeO.refl _)
      | (with_reducible exact LeO.none _)
      | (with_reducible refine LeO.ite ?_ ?_)
      | (with_reducible refine LeO.bind ?_ (fun _ => ?_))
      | exact ih0 _ _ _ _ _
      | exact ih1 _ _ _ _ _ _ _
      | exact casketlaw16_plus.mono _ _ _
      | exact casketlaw16_same.mono _ _ _
      | exact LeO.none _
      | refine LeO.ite ?_ ?_
      | refine LeO.bind ?_ (fun _ => ?_)
    · intro y0 y1 y2 y3 y4 y5 y6
      unfold casketlaw16_PolyParts.j1
      repeat' first
      | (with_reducible exact ih0 _ _ _ _ _)
      | (with_reducible exact ih1 _ _ _ _ _ _ _)
      | (with_reducible exact casketlaw16_plus.mono _ _ _)
      | (with_reducible exact casketlaw16_same.mono _ _ _)
      | (with_reducible exact LeO.refl _)
      | (with_reducible exact LeO.none _)
      | (with_reducible refine LeO.ite ?_ ?_)
      | (with_reducible refine LeO.bind ?_ (fun _ => ?_))
      | exact ih0 _ _ _ _ _
      | exact ih1 _ _ _ _ _ _ _
      | exact casketlaw16_plus.mono _ _ _
      | exact casketlaw16_same.mono _ _ _
      | exact LeO.none _
      | refine LeO.ite ?_ ?_
      | refine LeO.bind ?_ (fun _ => ?_)

theorem casketlaw16_PolyParts.mono : ∀ a0 a1 a2 k, LeO (casketlaw16_PolyParts.f k a0 a1 a2) (casketlaw16_PolyParts.f (k + 1) a0 a1 a2) := by
  intro a0 a1 a2 k
  obtain ⟨ih0, ih1⟩ := casketlaw16_PolyParts.mono_l k
  unfold casketlaw16_PolyParts.f
  repeat' first
      | (with_reducible exact ih0 _ _ _ _ _)
      | (with_reducible exact ih1 _ _ _ _ _ _ _)
      | (with_reducible exact casketlaw16_plus.mono _ _ _)
      | (with_reducible exact casketlaw16_same.mono _ _ _)
      | (with_reducible exact LeO.refl _)
      | (with_reducible exact LeO.none _)
      | (with_reducible refine LeO.ite ?_ ?_)
      | (with_reducible refine LeO.bind ?_ (fun _ => ?_))
      | exact ih0 _ _ _ _ _
      | exact ih1 _ _ _ _ _ _ _
      | exact casketlaw16_plus.mono _ _ _
      | exact casketlaw16_same.mono _ _ _
      | exact LeO.none _
      | refine LeO.ite ?_ ?_
      | refine LeO.bind ?_ (fun _ => ?_)

/-- THE ONE PURE STATEMENT of casketlaw16_PolyParts: yours. -/
def casketlaw16_PolyParts.Pure : Prop := ∀ (l0 : List Int) (l1 : List Int) (l2 : List Int), l0.length ≤ maxLen → l0.length * 1 ≤ 140737488351232 → (∀ x ∈ l0, (Lit.int .u8 x).wf = true) → l1.length ≤ maxLen → l1.length * 1 ≤ 140737488351232 → (∀ x ∈ l1, (Lit.int .u8 x).wf = true) → l2.length ≤ maxLen → l2.length * 1 ≤ 140737488351232 → (∀ x ∈ l2, (Lit.int .u8 x).wf = true) → ∃ k, casketlaw16_PolyParts.f k l0 l1 l2 = some true

end Go.Proofs.Ytllaobhheokafaa.Q
