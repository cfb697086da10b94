/- The pure functions (plain Lean over whole numbers and lists) of: casketlaw16_PolyOne. -/
import Derived.Test.YtllaobhheokafaaWWords
import Derived.Test.YtllaobhheokafaaWAll
import Derived.Test.YtllaobhheokafaaDpoly
import Derived.Test.YtllaobhheokafaaDref15
namespace Go.Proofs.Ytllaobhheokafaa.Q
open Go.RowKit Go.Proofs.YtllaobhheokafaaW.PrintWords Go.Proofs.YtllaobhheokafaaW.PrintLast Go.Proofs.YtllaobhheokafaaW.PrintMore
attribute [local go_sem] max2_int min2_int max_two min_two max_three min_three max_four min_four   -- for this text's walks alone
set_option linter.unusedVariables false
set_option linter.unusedSimpArgs false

/-! ### casketlaw16_PolyOne: function 12 -/
mutual

def casketlaw16_PolyOne.j0 : Nat → List Int → Bool → Bool → Option (Bool)
  | 0, _, _, _ => none
  | k + 1, x0, x3, x19 => if x19 = true then (some x3) else (if 32 ≤ 281474976710656 then ((some (List.replicate 32 0 : List Int)).bind fun y523 => (if 0 < (y523.length : Int) then ((some (y523.set (0 : Int).toNat 1 : List Int)).bind fun y526 => ((poly_MAC.f y526 x0).bind fun bt527 => (if 16 ≤ 281474976710656 then (casketlaw16_PolyOne.l0 k x0 x3 y526 bt527.1 bt527.2 (List.replicate 16 0) 0) else (none)))) else (none))) else (none))

def casketlaw16_PolyOne.l0 : Nat → List Int → Bool → List Int → List Int → Int → List Int → Int → Option (Bool)
  | 0, _, _, _, _, _, _, _ => none
  | k + 1, x0, x3, x4, x5, x6, x7, x8 => if x8 < (x0.length : Int) then (if 0 ≤ x8 then (if x8 < (x7.length : Int) then (casketlaw16_PolyOne.l0 k x0 x3 x4 x5 x6 (x7.set (x8 : Int).toNat (rd x0 x8)) (wrap64 (x8 + 1))) else (none)) else (none)) else (if 0 ≤ (x0.length : Int) then (if (x0.length : Int) < (x7.length : Int) then ((some (x7.set ((x0.length : Int) : Int).toNat 1 : List Int)).bind fun y536 => (if 16 ≤ 281474976710656 then ((some (List.replicate 16 0 : List Int)).bind fun y537 => (if y537.length + x0.length < 140737488355328 then ((poly_MAC.f x4 (y537 ++ x0)).bind fun bt543 => (if x3 = true then (if x6 = 0 then ((casketlaw16_same.f k x5 y536).bind fun t547 => (if t547 = true then (if bt543.2 = 0 then ((casketlaw16_same.f k bt543.1 y536).bind fun t548 => (some t548)) else (some false)) else (some false))) else (some false)) else (some false))) else (none))) else (none))) else (none)) else (none))
end

def casketlaw16_PolyOne.f (k : Nat) (l0 : List Int) : Option (Bool) := (casketlaw16_awake.f).bind fun t522 => (if (l0.length : Int) = 0 then (casketlaw16_PolyOne.j0 k l0 t522 true) else (casketlaw16_PolyOne.j0 k l0 t522 (decide ((l0.length : Int) > 15))))

theorem casketlaw16_PolyOne.mono_l : ∀ k, (∀ y0 y1 y2, LeO (casketlaw16_PolyOne.j0 k y0 y1 y2) (casketlaw16_PolyOne.j0 (k + 1) y0 y1 y2)) ∧ (∀ y0 y1 y2 y3 y4 y5 y6, LeO (casketlaw16_PolyOne.l0 k y0 y1 y2 y3 y4 y5 y6) (casketlaw16_PolyOne.l0 (k + 1) y0 y1 y2 y3 y4 y5 y6))
  | 0 => ⟨fun _ _ _ r h => by simp [casketlaw16_PolyOne.j0] at h, fun _ _ _ _ _ _ _ r h => by simp [casketlaw16_PolyOne.l0] at h⟩
  | k + 1 => by
    obtain ⟨ih0, ih1⟩ := casketlaw16_PolyOne.mono_l k
    refine ⟨?_, ?_⟩
    · intro y0 y1 y2
      unfold casketlaw16_PolyOne.j0
      repeat' first
      | (with_reducible exact ih0 _ _ _)
      | (with_reducible exact ih1 _ _ _ _ _ _ _)
      | (with_reducible exact casketlaw16_same.mono _ _ _)
      | (with_reducible exact LeO.refl _)
      | (with_reducible exact LeO.none _)
      | (with_reducible refine LeO.ite ?_ ?_)
      | (with_reducible refine LeO.bind ?_ (fun _ => ?_))
      | exact ih0 _ _ _
      | exact ih1 _ _ _ _ _ _ _
      | exact casketlaw16_same.mono _ _ _
      | exact LeO.none _
      | refine LeO.ite ?_ ?_
      | refine LeO.bind ?_ (fun _ => ?_)
    · intro y0 y1 y2 y3 y4 y5 y6
      unfold casketlaw16_PolyOne.l0
      repeat' first
      | (with_reducible exact ih0 _ _ _)
      | (with_reducible exact ih1 _ _ _ _ _ _ _)
      | (with_reducible exact casketlaw16_same.mono _ _ _)
      | (with_reducible exact LeO.refl _)
      | (with_reducible exact LeO.none _)
      | (with_reducible refine LeO.ite ?_ ?_)
      | (with_reducible refine LeO.bind ?_ (fun _ => ?_))
      | exact ih0 _ _ _
      | exact ih1 _ _ _ _ _ _ _
      | exact casketlaw16_same.mono _ _ _
      | exact LeO.none _
      | refine LeO.ite ?_ ?_
      | refine LeO.bind ?_ (fun _ => ?_)

theorem casketlaw16_PolyOne.mono : ∀ a0 k, LeO (casketlaw16_PolyOne.f k a0) (casketlaw16_PolyOne.f (k + 1) a0) := by
  intro a0 k
  obtain ⟨ih0, ih1⟩ := casketlaw16_PolyOne.mono_l k
  unfold casketlaw16_PolyOne.f
  repeat' first
      | (with_reducible exact ih0 _ _ _)
      | (with_reducible exact ih1 _ _ _ _ _ _ _)
      | (with_reducible exact casketlaw16_same.mono _ _ _)
      | (with_reducible exact LeO.refl _)
      | (with_reducible exact LeO.none _)
      | (with_reducible refine LeO.ite ?_ ?_)
      | (with_reducible refine LeO.bind ?_ (fun _ => ?_))
      | exact ih0 _ _ _
      | exact ih1 _ _ _ _ _ _ _
      | exact casketlaw16_same.mono _ _ _
      | exact LeO.none _
      | refine LeO.ite ?_ ?_
      | refine LeO.bind ?_ (fun _ => ?_)

/-- THE ONE PURE STATEMENT of casketlaw16_PolyOne: yours. -/
def casketlaw16_PolyOne.Pure : Prop := ∀ (l0 : List Int), l0.length ≤ maxLen → l0.length * 1 ≤ 140737488351232 → (∀ x ∈ l0, (Lit.int .u8 x).wf = true) → ∃ k, casketlaw16_PolyOne.f k l0 = some true

end Go.Proofs.Ytllaobhheokafaa.Q
