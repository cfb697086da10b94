/- The pure functions (plain Lean over whole numbers and lists) of: casketref14_pad, casketref14_MAC, casketref14_Check, casketref14_Expand. -/
import Derived.Test.YtgdogjnjbinoiaaWWords
import Derived.Test.YtgdogjnjbinoiaaWAll
import Derived.Test.YtgdogjnjbinoiaaPhmac
import Derived.Test.YtgdogjnjbinoiaaDref13
namespace Go.Proofs.Ytgdogjnjbinoiaa.Q
open Go.RowKit Go.Proofs.YtgdogjnjbinoiaaW.PrintWords Go.Proofs.YtgdogjnjbinoiaaW.PrintLast Go.Proofs.YtgdogjnjbinoiaaW.PrintMore
attribute [local go_sem] max2_int min2_int max_two min_two max_three min_three max_four min_four   -- for this text's walks alone
set_option linter.unusedVariables false
set_option linter.unusedSimpArgs false

/-! ### casketref14_pad: function 55 -/
/-- A key's 64 bytes, with a byte held against each. -/
def casketref14_pad.f (l0 : List Int) (a1 : Int) : Option (List Int) := if l0.length ≤ 549755813888 ∧ (∀ x ∈ l0, 0 ≤ x ∧ x < 256) then some (padW l0 a1) else none

/-! ### casketref14_MAC: function 29 -/
def casketref14_MAC.f (k : Nat) (l0 : List Int) (l1 : List Int) : Option (List Int) := (casketref14_pad.f l0 54).bind fun t299 => (if t299.length + l1.length < 140737488355328 then ((casketref13_Sum.f k (t299 ++ l1)).bind fun t305 => ((casketref14_pad.f l0 92).bind fun t308 => (if t308.length + t305.length < 140737488355328 then ((casketref13_Sum.f k (t308 ++ t305)).bind fun t314 => (some t314)) else (none)))) else (none))

theorem casketref14_MAC.mono : ∀ a0 a1 k, LeO (casketref14_MAC.f k a0 a1) (casketref14_MAC.f (k + 1) a0 a1) := by
  intro a0 a1 k
  unfold casketref14_MAC.f
  repeat' first
      | (with_reducible exact casketref13_Sum.mono _ _)
      | (with_reducible exact LeO.refl _)
      | (with_reducible exact LeO.none _)
      | (with_reducible refine LeO.ite ?_ ?_)
      | (with_reducible refine LeO.bind ?_ (fun _ => ?_))
      | exact casketref13_Sum.mono _ _
      | exact LeO.none _
      | refine LeO.ite ?_ ?_
      | refine LeO.bind ?_ (fun _ => ?_)

/-! ### casketref14_Check: function 31 -/
def casketref14_Check.f (k : Nat) (l0 : List Int) (l1 : List Int) (l2 : List Int) : Option (Bool) := (casketref14_MAC.f k l0 l1).bind fun t317 => ((casketref01_Same.f k t317 l2).bind fun t320 => (some t320))

theorem casketref14_Check.mono : ∀ a0 a1 a2 k, LeO (casketref14_Check.f k a0 a1 a2) (casketref14_Check.f (k + 1) a0 a1 a2) := by
  intro a0 a1 a2 k
  unfold casketref14_Check.f
  repeat' first
      | (with_reducible exact casketref01_Same.mono _ _ _)
      | (with_reducible exact casketref14_MAC.mono _ _ _)
      | (with_reducible exact LeO.refl _)
      | (with_reducible exact LeO.none _)
      | (with_reducible refine LeO.ite ?_ ?_)
      | (with_reducible refine LeO.bind ?_ (fun _ => ?_))
      | exact casketref01_Same.mono _ _ _
      | exact casketref14_MAC.mono _ _ _
      | exact LeO.none _
      | refine LeO.ite ?_ ?_
      | refine LeO.bind ?_ (fun _ => ?_)

/-! ### casketref14_Expand: function 35 -/
mutual

def casketref14_Expand.j0 : Nat → List Int → List Int → Int → Bool → Option (List Int × Int)
  | 0, _, _, _, _ => none
  | k + 1, x0, x1, x2, x16 => if x16 = true then (some (([] : List Int), 1)) else (casketref14_Expand.l0 k x0 x1 x2 ([] : List Int) ([] : List Int) 1)

def casketref14_Expand.l0 : Nat → List Int → List Int → Int → List Int → List Int → Int → Option (List Int × Int)
  | 0, _, _, _, _, _, _ => none
  | k + 1, x0, x1, x2, x8, x9, x10 => if (x8.length : Int) < x2 then ((some (([] : List Int) : List Int)).bind fun y412 => (if y412.length + x9.length < 140737488355328 then ((some (y412 ++ x9 : List Int)).bind fun y415 => (if y415.length + x1.length < 140737488355328 then ((some (y415 ++ x1 : List Int)).bind fun y418 => (if y418.length < 140737488355328 then ((casketref14_MAC.f k x0 (y418 ++ [(x10) % 256])).bind fun t424 => (if x8.length + t424.length < 140737488355328 then (casketref14_Expand.l0 k x0 x1 x2 (x8 ++ t424) t424 (wrap64 (x10 + 1))) else (none))) else (none))) else (none))) else (none))) else (if 0 ≤ x2 then (if x2 ≤ (x8.length : Int) then (some ((x8.take (x2 : Int).toNat), 0)) else (none)) else (none))
end

def casketref14_Expand.f (k : Nat) (l0 : List Int) (l1 : List Int) (a2 : Int) : Option (List Int × Int) := if a2 < 0 then (casketref14_Expand.j0 k l0 l1 a2 true) else (casketref14_Expand.j0 k l0 l1 a2 (decide (a2 > 8160)))

theorem casketref14_Expand.mono_l : ∀ k, (∀ y0 y1 y2 y3, LeO (casketref14_Expand.j0 k y0 y1 y2 y3) (casketref14_Expand.j0 (k + 1) y0 y1 y2 y3)) ∧ (∀ y0 y1 y2 y3 y4 y5, LeO (casketref14_Expand.l0 k y0 y1 y2 y3 y4 y5) (casketref14_Expand.l0 (k + 1) y0 y1 y2 y3 y4 y5))
  | 0 => ⟨fun _ _ _ _ r h => by simp [casketref14_Expand.j0] at h, fun _ _ _ _ _ _ r h => by simp [casketref14_Expand.l0] at h⟩
  | k + 1 => by
    obtain ⟨ih0, ih1⟩ := casketref14_Expand.mono_l k
    refine ⟨?_, ?_⟩
    · intro y0 y1 y2 y3
      unfold casketref14_Expand.j0
      repeat' first
      | (with_reducible exact ih0 _ _ _ _)
      | (with_reducible exact ih1 _ _ _ _ _ _)
      | (with_reducible exact casketref14_MAC.mono _ _ _)
      | (with_reducible exact LeO.refl _)
      | (with_reducible exact LeO.none _)
      | (with_reducible refine LeO.ite ?_ ?_)
      | (with_reducible refine LeO.bind ?_ (fun _ => ?_))
      | exact ih0 _ _ _ _
      | exact ih1 _ _ _ _ _ _
      | exact casketref14_MAC.mono _ _ _
      | exact LeO.none _
      | refine LeO.ite ?_ ?_
      | refine LeO.bind ?_ (fun _ => ?_)
    · intro y0 y1 y2 y3 y4 y5
      unfold casketref14_Expand.l0
      repeat' first
      | (with_reducible exact ih0 _ _ _ _)
      | (with_reducible exact ih1 _ _ _ _ _ _)
      | (with_reducible exact casketref14_MAC.mono _ _ _)
      | (with_reducible exact LeO.refl _)
      | (with_reducible exact LeO.none _)
      | (with_reducible refine LeO.ite ?_ ?_)
      | (with_reducible refine LeO.bind ?_ (fun _ => ?_))
      | exact ih0 _ _ _ _
      | exact ih1 _ _ _ _ _ _
      | exact casketref14_MAC.mono _ _ _
      | exact LeO.none _
      | refine LeO.ite ?_ ?_
      | refine LeO.bind ?_ (fun _ => ?_)

theorem casketref14_Expand.mono : ∀ a0 a1 a2 k, LeO (casketref14_Expand.f k a0 a1 a2) (casketref14_Expand.f (k + 1) a0 a1 a2) := by
  intro a0 a1 a2 k
  obtain ⟨ih0, ih1⟩ := casketref14_Expand.mono_l k
  unfold casketref14_Expand.f
  repeat' first
      | (with_reducible exact ih0 _ _ _ _)
      | (with_reducible exact ih1 _ _ _ _ _ _)
      | (with_reducible exact casketref14_MAC.mono _ _ _)
      | (with_reducible exact LeO.refl _)
      | (with_reducible exact LeO.none _)
      | (with_reducible refine LeO.ite ?_ ?_)
      | (with_reducible refine LeO.bind ?_ (fun _ => ?_))
      | exact ih0 _ _ _ _
      | exact ih1 _ _ _ _ _ _
      | exact casketref14_MAC.mono _ _ _
      | exact LeO.none _
      | refine LeO.ite ?_ ?_
      | refine LeO.bind ?_ (fun _ => ?_)

end Go.Proofs.Ytgdogjnjbinoiaa.Q
