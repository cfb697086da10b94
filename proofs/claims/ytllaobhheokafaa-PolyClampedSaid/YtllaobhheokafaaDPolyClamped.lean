/- The pure functions (plain Lean over whole numbers and lists) of: casketlaw16_PolyClamped. -/
import Derived.Test.YtllaobhheokafaaWWords
import Derived.Test.YtllaobhheokafaaWAll
import Derived.Test.YtllaobhheokafaaDpoly
import Derived.Test.YtllaobhheokafaaDref15
namespace Go.Proofs.Ytllaobhheokafaa.Q
open Go.RowKit Go.Proofs.YtllaobhheokafaaW.PrintWords Go.Proofs.YtllaobhheokafaaW.PrintLast Go.Proofs.YtllaobhheokafaaW.PrintMore
attribute [local go_sem] max2_int min2_int max_two min_two max_three min_three max_four min_four   -- for this text's walks alone
set_option linter.unusedVariables false
set_option linter.unusedSimpArgs false

/-! ### casketlaw16_PolyClamped: function 11 -/
mutual

def casketlaw16_PolyClamped.j0 : Nat → List Int → List Int → List Int → Int → Bool → Bool → Option (Bool)
  | 0, _, _, _, _, _, _ => none
  | k + 1, x0, x1, x2, x3, x9, x30 => if x30 = true then (some x9) else ((some (([] : List Int) : List Int)).bind fun y491 => (if y491.length + x0.length < 140737488355328 then (casketlaw16_PolyClamped.l0 k x0 x1 x2 x3 x9 (y491 ++ x0) 3) else (none)))

def casketlaw16_PolyClamped.l0 : Nat → List Int → List Int → List Int → Int → Bool → List Int → Int → Option (Bool)
  | 0, _, _, _, _, _, _, _ => none
  | k + 1, x0, x1, x2, x3, x9, x10, x11 => if x11 < 16 then (if 0 ≤ x11 then (if x11 < (x10.length : Int) then (casketlaw16_PolyClamped.l0 k x0 x1 x2 x3 x9 (x10.set (x11 : Int).toNat (Go.bits .xor .u8 (rd x10 x11) (Go.bits .and .u8 x3 240))) (wrap64 (x11 + 4))) else (none)) else (none)) else (casketlaw16_PolyClamped.l1 k x0 x1 x2 x3 x9 x10 4)

def casketlaw16_PolyClamped.l1 : Nat → List Int → List Int → List Int → Int → Bool → List Int → Int → Option (Bool)
  | 0, _, _, _, _, _, _, _ => none
  | k + 1, x0, x1, x2, x3, x9, x10, x12 => if x12 < 16 then (if 0 ≤ x12 then (if x12 < (x10.length : Int) then (casketlaw16_PolyClamped.l1 k x0 x1 x2 x3 x9 (x10.set (x12 : Int).toNat (Go.bits .xor .u8 (rd x10 x12) (Go.bits .and .u8 x3 3))) (wrap64 (x12 + 4))) else (none)) else (none)) else ((some (([] : List Int) : List Int)).bind fun y501 => (if y501.length + x0.length < 140737488355328 then ((some (y501 ++ x0 : List Int)).bind fun y504 => (if y504.length + x1.length < 140737488355328 then ((poly_MAC.f (y504 ++ x1) x2).bind fun bt510 => (if x10.length + x1.length < 140737488355328 then ((poly_MAC.f (x10 ++ x1) x2).bind fun bt517 => (if x9 = true then (if bt510.2 = 0 then (if bt517.2 = 0 then ((casketlaw16_same.f k bt510.1 bt517.1).bind fun t521 => (some t521)) else (some false)) else (some false)) else (some false))) else (none))) else (none))) else (none)))
end

def casketlaw16_PolyClamped.f (k : Nat) (l0 : List Int) (l1 : List Int) (l2 : List Int) (a3 : Int) : Option (Bool) := (casketlaw16_awake.f).bind fun t490 => (if (l0.length : Int) = 16 then (if (l1.length : Int) = 16 then (casketlaw16_PolyClamped.j0 k l0 l1 l2 a3 t490 (decide ((l2.length : Int) > 600))) else (casketlaw16_PolyClamped.j0 k l0 l1 l2 a3 t490 true)) else (casketlaw16_PolyClamped.j0 k l0 l1 l2 a3 t490 true))

theorem casketlaw16_PolyClamped.mono_l : ∀ k, (∀ y0 y1 y2 y3 y4 y5, LeO (casketlaw16_PolyClamped.j0 k y0 y1 y2 y3 y4 y5) (casketlaw16_PolyClamped.j0 (k + 1) y0 y1 y2 y3 y4 y5)) ∧ (∀ y0 y1 y2 y3 y4 y5 y6, LeO (casketlaw16_PolyClamped.l0 k y0 y1 y2 y3 y4 y5 y6) (casketlaw16_PolyClamped.l0 (k + 1) y0 y1 y2 y3 y4 y5 y6)) ∧ (∀ y0 y1 y2 y3 y4 y5 y6, LeO (casketlaw16_PolyClamped.l1 k y0 y1 y2 y3 y4 y5 y6) (casketlaw16_PolyClamped.l1 (k + 1) y0 y1 y2 y3 y4 y5 y6))
  | 0 => ⟨fun _ _ _ _ _ _ r h => by simp [casketlaw16_PolyClamped.j0] at h, fun _ _ _ _ _ _ _ r h => by simp [casketlaw16_PolyClamped.l0] at h, fun _ _ _ _ _ _ _ r h => by simp [casketlaw16_PolyClamped.l1] at h⟩
  | k + 1 => by
    obtain ⟨ih0, ih1, ih2⟩ := casketlaw16_PolyClamped.mono_l k
    refine ⟨?_, ?_, ?_⟩
    · intro y0 y1 y2 y3 y4 y5
      unfold casketlaw16_PolyClamped.j0
      repeat' first
      | (with_reducible exact ih0 _ _ _ _ _ _)
      | (with_reducible exact ih1 _ _ _ _ _ _ _)
      | (with_reducible exact ih2 _ _ _ _ _ _ _)
      | (with_reducible exact casketlaw16_same.mono _ _ _)
      | (with_reducible exact LeO.refl _)
      | (with_reducible exact LeO.none _)
      | (with_reducible refine LeO.ite ?_ ?_)
      | (with_reducible refine LeO.bind ?_ (fun _ => ?_))
      | exact ih0 _ _ _ _ _ _
      | exact ih1 _ _ _ _ _ _ _
      | exact ih2 _ _ _ _ _ _ _
      | exact casketlaw16_same.mono _ _ _
      | exact LeO.none _
      | refine LeO.ite ?_ ?_
      | refine LeO.bind ?_ (fun _ => ?_)
    · intro y0 y1 y2 y3 y4 y5 y6
      unfold casketlaw16_PolyClamped.l0
      repeat' first
      | (with_reducible exact ih0 _ _ _ _ _ _)
      | (with_reducible exact ih1 _ _ _ _ _ _ _)
      | (with_reducible exact ih2 _ _ _ _ _ _ _)
      | (with_reducible exact casketlaw16_same.mono _ _ _)
      | (with_reducible exact LeO.refl _)
      | (with_reducible exact LeO.none _)
      | (with_reducible refine LeO.ite ?_ ?_)
      | (with_reducible refine LeO.bind ?_ (fun _ => ?_))
      | exact ih0 _ _ _ _ _ _
      | exact ih1 _ _ _ _ _ _ _
      | exact ih2 _ _ _ _ _ _ _
      | exact casketlaw16_same.mono _ _ _
      | exact LeO.none _
      | refine LeO.ite ?_ ?_
      | refine LeO.bind ?_ (fun _ => ?_)
    · intro y0 y1 y2 y3 y4 y5 y6
      unfold casketlaw16_PolyClamped.l1
      repeat' first
      | (with_reducible exact ih0 _ _ _ _ _ _)
      | (with_reducible exact ih1 _ _ _ _ _ _ _)
      | (with_reducible exact ih2 _ _ _ _ _ _ _)
      | (with_reducible exact casketlaw16_same.mono _ _ _)
      | (with_reducible exact LeO.refl _)
      | (with_reducible exact LeO.none _)
      | (with_reducible refine LeO.ite ?_ ?_)
      | (with_reducible refine LeO.bind ?_ (fun _ => ?_))
      | exact ih0 _ _ _ _ _ _
      | exact ih1 _ _ _ _ _ _ _
      | exact ih2 _ _ _ _ _ _ _
      | exact casketlaw16_same.mono _ _ _
      | exact LeO.none _
      | refine LeO.ite ?_ ?_
      | refine LeO.bind ?_ (fun _ => ?_)

theorem casketlaw16_PolyClamped.mono : ∀ a0 a1 a2 a3 k, LeO (casketlaw16_PolyClamped.f k a0 a1 a2 a3) (casketlaw16_PolyClamped.f (k + 1) a0 a1 a2 a3) := by
  intro a0 a1 a2 a3 k
  obtain ⟨ih0, ih1, ih2⟩ := casketlaw16_PolyClamped.mono_l k
  unfold casketlaw16_PolyClamped.f
  repeat' first
      | (with_reducible exact ih0 _ _ _ _ _ _)
      | (with_reducible exact ih1 _ _ _ _ _ _ _)
      | (with_reducible exact ih2 _ _ _ _ _ _ _)
      | (with_reducible exact casketlaw16_same.mono _ _ _)
      | (with_reducible exact LeO.refl _)
      | (with_reducible exact LeO.none _)
      | (with_reducible refine LeO.ite ?_ ?_)
      | (with_reducible refine LeO.bind ?_ (fun _ => ?_))
      | exact ih0 _ _ _ _ _ _
      | exact ih1 _ _ _ _ _ _ _
      | exact ih2 _ _ _ _ _ _ _
      | exact casketlaw16_same.mono _ _ _
      | exact LeO.none _
      | refine LeO.ite ?_ ?_
      | refine LeO.bind ?_ (fun _ => ?_)

/-- THE ONE PURE STATEMENT of casketlaw16_PolyClamped: yours. -/
def casketlaw16_PolyClamped.Pure : Prop := ∀ (l0 : List Int) (l1 : List Int) (l2 : List Int) (a3 : Int), l0.length ≤ maxLen → l0.length * 1 ≤ 140737488351232 → (∀ x ∈ l0, (Lit.int .u8 x).wf = true) → l1.length ≤ maxLen → l1.length * 1 ≤ 140737488351232 → (∀ x ∈ l1, (Lit.int .u8 x).wf = true) → l2.length ≤ maxLen → l2.length * 1 ≤ 140737488351232 → (∀ x ∈ l2, (Lit.int .u8 x).wf = true) → (Lit.int .u8 a3).wf = true → ∃ k, casketlaw16_PolyClamped.f k l0 l1 l2 a3 = some true

end Go.Proofs.Ytllaobhheokafaa.Q
