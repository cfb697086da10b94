/- The pure functions (plain Lean over whole numbers and lists) of: casketlaw20_few, casketref20_Half, casketref20_Node, casketref20_Root, casketref20_walk, casketref20_Prove, casketref20_Leaf, casketref20_Many, casketref20_Sum, casketref20_made, casketref20_Rebuild, casketref20_Verify, casketlaw20_bits. -/
import Derived.Test.YtgdogjnjbinoiaaDoorWWordsX
import Derived.Test.YtgdogjnjbinoiaaDoorDref13
import Derived.Test.YtgdogjnjbinoiaaDoorDshaX
namespace Go.Proofs.YtgdogjnjbinoiaaDoor.Q
open Go.RowKit Go.Proofs.YtgdogjnjbinoiaaDoorW.PrintWords Go.Proofs.YtgdogjnjbinoiaaDoorW.PrintLast Go.Proofs.YtgdogjnjbinoiaaDoorW.PrintMore
attribute [local go_sem] max2_int min2_int max_two min_two max_three min_three max_four min_four   -- for this text's walks alone
set_option linter.unusedVariables false
set_option linter.unusedSimpArgs false

/-! ### casketlaw20_few: function 11 -/
def casketlaw20_few.l0 : Nat → List (List Int) → Int → Option (Bool)
  | 0, _, _ => none
  | k + 1, x0, x5 => if x5 < (x0.length : Int) then (if 0 ≤ x5 then (if ((rd_L1 x0 x5).length : Int) > 200 then (some false) else (casketlaw20_few.l0 k x0 (wrap64 (x5 + 1)))) else (none)) else (some true)

def casketlaw20_few.f (k : Nat) (l0 : List (List Int)) (a1 : Int) : Option (Bool) := if (l0.length : Int) > a1 then (some false) else (casketlaw20_few.l0 k l0 0)

theorem casketlaw20_few.mono_l : ∀ k, (∀ y0 y1, LeO (casketlaw20_few.l0 k y0 y1) (casketlaw20_few.l0 (k + 1) y0 y1))
  | 0 => fun _ _ r h => by simp [casketlaw20_few.l0] at h
  | k + 1 => by
    have ih0 := casketlaw20_few.mono_l k
    · intro y0 y1
      unfold casketlaw20_few.l0
      repeat' first
      | (with_reducible exact ih0 _ _)
      | (with_reducible exact LeO.refl _)
      | (with_reducible exact LeO.none _)
      | (with_reducible refine LeO.ite ?_ ?_)
      | (with_reducible refine LeO.bind ?_ (fun _ => ?_))
      | exact ih0 _ _
      | exact LeO.none _
      | refine LeO.ite ?_ ?_
      | refine LeO.bind ?_ (fun _ => ?_)

theorem casketlaw20_few.mono : ∀ a0 a1 k, LeO (casketlaw20_few.f k a0 a1) (casketlaw20_few.f (k + 1) a0 a1) := by
  intro a0 a1 k
  have ih0 := casketlaw20_few.mono_l k
  unfold casketlaw20_few.f
  repeat' first
      | (with_reducible exact ih0 _ _)
      | (with_reducible exact LeO.refl _)
      | (with_reducible exact LeO.none _)
      | (with_reducible refine LeO.ite ?_ ?_)
      | (with_reducible refine LeO.bind ?_ (fun _ => ?_))
      | exact ih0 _ _
      | exact LeO.none _
      | refine LeO.ite ?_ ?_
      | refine LeO.bind ?_ (fun _ => ?_)

/-! ### casketref20_Half: function 17 -/
def casketref20_Half.l0 : Nat → Int → Int → Option (Int)
  | 0, _, _ => none
  | k + 1, x0, x3 => if (wrap64 (x3 * 2)) < x0 then (casketref20_Half.l0 k x0 (wrap64 (x3 * 2))) else (some x3)

def casketref20_Half.f (k : Nat) (a0 : Int) : Option (Int) := casketref20_Half.l0 k a0 1

theorem casketref20_Half.mono_l : ∀ k, (∀ y0 y1, LeO (casketref20_Half.l0 k y0 y1) (casketref20_Half.l0 (k + 1) y0 y1))
  | 0 => fun _ _ r h => by simp [casketref20_Half.l0] at h
  | k + 1 => by
    have ih0 := casketref20_Half.mono_l k
    · intro y0 y1
      unfold casketref20_Half.l0
      repeat' first
      | (with_reducible exact ih0 _ _)
      | (with_reducible exact LeO.refl _)
      | (with_reducible exact LeO.none _)
      | (with_reducible refine LeO.ite ?_ ?_)
      | (with_reducible refine LeO.bind ?_ (fun _ => ?_))
      | exact ih0 _ _
      | exact LeO.none _
      | refine LeO.ite ?_ ?_
      | refine LeO.bind ?_ (fun _ => ?_)

theorem casketref20_Half.mono : ∀ a0 k, LeO (casketref20_Half.f k a0) (casketref20_Half.f (k + 1) a0) := by
  intro a0 k
  have ih0 := casketref20_Half.mono_l k
  unfold casketref20_Half.f
  repeat' first
      | (with_reducible exact ih0 _ _)
      | (with_reducible exact LeO.refl _)
      | (with_reducible exact LeO.none _)
      | (with_reducible refine LeO.ite ?_ ?_)
      | (with_reducible refine LeO.bind ?_ (fun _ => ?_))
      | exact ih0 _ _
      | exact LeO.none _
      | refine LeO.ite ?_ ?_
      | refine LeO.bind ?_ (fun _ => ?_)

/-! ### casketref20_Node: function 21 -/
def casketref20_Node.f (k : Nat) (l0 : List Int) (l1 : List Int) : Option (List Int) := (some (([1] : List Int) : List Int)).bind fun y276 => (if y276.length + l0.length < 140737488355328 then ((some (y276 ++ l0 : List Int)).bind fun y279 => (if y279.length + l1.length < 140737488355328 then ((casketref13_Sum.f k (y279 ++ l1)).bind fun t285 => (some t285)) else (none))) else (none))

theorem casketref20_Node.mono : ∀ a0 a1 k, LeO (casketref20_Node.f k a0 a1) (casketref20_Node.f (k + 1) a0 a1) := by
  intro a0 a1 k
  unfold casketref20_Node.f
  repeat' first
      | (with_reducible exact casketref13_Sum.mono _ _)
      | (with_reducible exact LeO.refl _)
      | (with_reducible exact LeO.none _)
      | (with_reducible refine LeO.ite ?_ ?_)
      | (with_reducible refine LeO.bind ?_ (fun _ => ?_))
      | exact casketref13_Sum.mono _ _
      | exact LeO.none _
      | refine LeO.ite ?_ ?_
      | refine LeO.bind ?_ (fun _ => ?_)

/-! ### casketref20_Root: function 22 -/
def casketref20_Root.f : Nat → List (List Int) → Option (List Int)
  | 0, _ => none
  | k + 1, l0 => if (l0.length : Int) = 0 then ((casketref13_Sum.f k ([] : List Int)).bind fun t288 => (some t288)) else (if (l0.length : Int) = 1 then ((some (([] : List Int) : List Int)).bind fun y291 => (if 0 < (l0.length : Int) then (if y291.length + (rd_L1 l0 0).length < 140737488355328 then (some (y291 ++ (rd_L1 l0 0))) else (none)) else (none))) else ((casketref20_Half.f k (l0.length : Int)).bind fun t298 => (if 0 ≤ t298 then (if t298 ≤ (l0.length : Int) then ((casketref20_Root.f k (l0.take (t298 : Int).toNat)).bind fun t303 => ((casketref20_Root.f k (l0.drop (t298 : Int).toNat)).bind fun t310 => ((casketref20_Node.f k t303 t310).bind fun t313 => (some t313)))) else (none)) else (none))))

theorem casketref20_Root.mono_l : ∀ k, (∀ y0, LeO (casketref20_Root.f k y0) (casketref20_Root.f (k + 1) y0))
  | 0 => fun _ r h => by simp [casketref20_Root.f] at h
  | k + 1 => by
    have ih0 := casketref20_Root.mono_l k
    · intro y0
      unfold casketref20_Root.f
      repeat' first
      | (with_reducible exact ih0 _)
      | (with_reducible exact casketref13_Sum.mono _ _)
      | (with_reducible exact casketref20_Half.mono _ _)
      | (with_reducible exact casketref20_Node.mono _ _ _)
      | (with_reducible exact LeO.refl _)
      | (with_reducible exact LeO.none _)
      | (with_reducible refine LeO.ite ?_ ?_)
      | (with_reducible refine LeO.bind ?_ (fun _ => ?_))
      | exact ih0 _
      | exact casketref13_Sum.mono _ _
      | exact casketref20_Half.mono _ _
      | exact casketref20_Node.mono _ _ _
      | exact LeO.none _
      | refine LeO.ite ?_ ?_
      | refine LeO.bind ?_ (fun _ => ?_)

theorem casketref20_Root.mono : ∀ a0 k, LeO (casketref20_Root.f k a0) (casketref20_Root.f (k + 1) a0) := by
  intro a0 k
  have ih0 := casketref20_Root.mono_l k
  exact ih0 a0

/-! ### casketref20_walk: function 35 -/
mutual

def casketref20_walk.j0 : Nat → List (List Int) → Int → Int → Int → Int → Bool → Option ((List (List Int)))
  | 0, _, _, _, _, _, _ => none
  | k + 1, x0, x1, x2, x3, x4, x20 => if x20 = true then (some ([] : List (List Int))) else (if x4 < x1 then (casketref20_walk.j1 k x0 x1 x2 x3 x4 true) else (casketref20_walk.j1 k x0 x1 x2 x3 x4 (decide ((wrap64 (x2 - 1)) < x3))))

def casketref20_walk.j1 : Nat → List (List Int) → Int → Int → Int → Int → Bool → Option ((List (List Int)))
  | 0, _, _, _, _, _, _ => none
  | k + 1, x0, x1, x2, x3, x4, x29 => if x29 = true then (if 0 ≤ x1 then (if x1 ≤ x2 then (if x2 ≤ (x0.length : Int) then ((casketref20_Root.f k ((x0.take (x2 : Int).toNat).drop (x1 : Int).toNat)).bind fun t320 => (some (([t320] : List (List Int))))) else (none)) else (none)) else (none)) else ((casketref20_Half.f k (wrap64 (x2 - x1))).bind fun t326 => ((casketref20_walk.f k x0 x1 (wrap64 (x1 + t326)) x3 x4).bind fun t327 => ((casketref20_walk.f k x0 (wrap64 (x1 + t326)) x2 x3 x4).bind fun t330 => (if t327.length + t330.length < 5864062014805 then (some (t327 ++ t330)) else (none)))))

def casketref20_walk.f : Nat → List (List Int) → Int → Int → Int → Int → Option ((List (List Int)))
  | 0, _, _, _, _, _ => none
  | k + 1, l0, a1, a2, a3, a4 => if a3 ≤ a1 then (casketref20_walk.j0 k l0 a1 a2 a3 a4 (decide ((wrap64 (a2 - 1)) ≤ a4))) else (casketref20_walk.j0 k l0 a1 a2 a3 a4 false)
end

theorem casketref20_walk.mono_l : ∀ k, (∀ y0 y1 y2 y3 y4, LeO (casketref20_walk.f k y0 y1 y2 y3 y4) (casketref20_walk.f (k + 1) y0 y1 y2 y3 y4)) ∧ (∀ y0 y1 y2 y3 y4 y5, LeO (casketref20_walk.j0 k y0 y1 y2 y3 y4 y5) (casketref20_walk.j0 (k + 1) y0 y1 y2 y3 y4 y5)) ∧ (∀ y0 y1 y2 y3 y4 y5, LeO (casketref20_walk.j1 k y0 y1 y2 y3 y4 y5) (casketref20_walk.j1 (k + 1) y0 y1 y2 y3 y4 y5))
  | 0 => ⟨fun _ _ _ _ _ r h => by simp [casketref20_walk.f] at h, fun _ _ _ _ _ _ r h => by simp [casketref20_walk.j0] at h, fun _ _ _ _ _ _ r h => by simp [casketref20_walk.j1] at h⟩
  | k + 1 => by
    obtain ⟨ih0, ih1, ih2⟩ := casketref20_walk.mono_l k
    refine ⟨?_, ?_, ?_⟩
    · intro y0 y1 y2 y3 y4
      unfold casketref20_walk.f
      repeat' first
      | (with_reducible exact ih0 _ _ _ _ _)
      | (with_reducible exact ih1 _ _ _ _ _ _)
      | (with_reducible exact ih2 _ _ _ _ _ _)
      | (with_reducible exact casketref20_Half.mono _ _)
      | (with_reducible exact casketref20_Root.mono _ _)
      | (with_reducible exact LeO.refl _)
      | (with_reducible exact LeO.none _)
      | (with_reducible refine LeO.ite ?_ ?_)
      | (with_reducible refine LeO.bind ?_ (fun _ => ?_))
      | exact ih0 _ _ _ _ _
      | exact ih1 _ _ _ _ _ _
      | exact ih2 _ _ _ _ _ _
      | exact casketref20_Half.mono _ _
      | exact casketref20_Root.mono _ _
      | exact LeO.none _
      | refine LeO.ite ?_ ?_
      | refine LeO.bind ?_ (fun _ => ?_)
    · intro y0 y1 y2 y3 y4 y5
      unfold casketref20_walk.j0
      repeat' first
      | (with_reducible exact ih0 _ _ _ _ _)
      | (with_reducible exact ih1 _ _ _ _ _ _)
      | (with_reducible exact ih2 _ _ _ _ _ _)
      | (with_reducible exact casketref20_Half.mono _ _)
      | (with_reducible exact casketref20_Root.mono _ _)
      | (with_reducible exact LeO.refl _)
      | (with_reducible exact LeO.none _)
      | (with_reducible refine LeO.ite ?_ ?_)
      | (with_reducible refine LeO.bind ?_ (fun _ => ?_))
      | exact ih0 _ _ _ _ _
      | exact ih1 _ _ _ _ _ _
      | exact ih2 _ _ _ _ _ _
      | exact casketref20_Half.mono _ _
      | exact casketref20_Root.mono _ _
      | exact LeO.none _
      | refine LeO.ite ?_ ?_
      | refine LeO.bind ?_ (fun _ => ?_)
    · intro y0 y1 y2 y3 y4 y5
      unfold casketref20_walk.j1
      repeat' first
      | (with_reducible exact ih0 _ _ _ _ _)
      | (with_reducible exact ih1 _ _ _ _ _ _)
      | (with_reducible exact ih2 _ _ _ _ _ _)
      | (with_reducible exact casketref20_Half.mono _ _)
      | (with_reducible exact casketref20_Root.mono _ _)
      | (with_reducible exact LeO.refl _)
      | (with_reducible exact LeO.none _)
      | (with_reducible refine LeO.ite ?_ ?_)
      | (with_reducible refine LeO.bind ?_ (fun _ => ?_))
      | exact ih0 _ _ _ _ _
      | exact ih1 _ _ _ _ _ _
      | exact ih2 _ _ _ _ _ _
      | exact casketref20_Half.mono _ _
      | exact casketref20_Root.mono _ _
      | exact LeO.none _
      | refine LeO.ite ?_ ?_
      | refine LeO.bind ?_ (fun _ => ?_)

theorem casketref20_walk.mono : ∀ a0 a1 a2 a3 a4 k, LeO (casketref20_walk.f k a0 a1 a2 a3 a4) (casketref20_walk.f (k + 1) a0 a1 a2 a3 a4) := by
  intro a0 a1 a2 a3 a4 k
  obtain ⟨ih0, ih1, ih2⟩ := casketref20_walk.mono_l k
  exact ih0 a0 a1 a2 a3 a4

/-! ### casketref20_Prove: function 13 -/
def casketref20_Prove.f (k : Nat) (l0 : List (List Int)) (a1 : Int) (a2 : Int) : Option ((List (List Int)) × Int) := if a1 < 0 then (some (([] : List (List Int)), 1)) else (if a2 < a1 then (some (([] : List (List Int)), 1)) else (if a2 ≥ (l0.length : Int) then (some (([] : List (List Int)), 1)) else ((casketref20_walk.f k l0 0 (l0.length : Int) a1 a2).bind fun t336 => (some (t336, 0)))))

theorem casketref20_Prove.mono : ∀ a0 a1 a2 k, LeO (casketref20_Prove.f k a0 a1 a2) (casketref20_Prove.f (k + 1) a0 a1 a2) := by
  intro a0 a1 a2 k
  unfold casketref20_Prove.f
  repeat' first
      | (with_reducible exact casketref20_walk.mono _ _ _ _ _ _)
      | (with_reducible exact LeO.refl _)
      | (with_reducible exact LeO.none _)
      | (with_reducible refine LeO.ite ?_ ?_)
      | (with_reducible refine LeO.bind ?_ (fun _ => ?_))
      | exact casketref20_walk.mono _ _ _ _ _ _
      | exact LeO.none _
      | refine LeO.ite ?_ ?_
      | refine LeO.bind ?_ (fun _ => ?_)

/-! ### casketref20_Leaf: function 20 -/
def casketref20_Leaf.f (k : Nat) (l0 : List Int) : Option (List Int) := (some (([0] : List Int) : List Int)).bind fun y385 => (if y385.length + l0.length < 140737488355328 then ((casketref13_Sum.f k (y385 ++ l0)).bind fun t391 => (some t391)) else (none))

theorem casketref20_Leaf.mono : ∀ a0 k, LeO (casketref20_Leaf.f k a0) (casketref20_Leaf.f (k + 1) a0) := by
  intro a0 k
  unfold casketref20_Leaf.f
  repeat' first
      | (with_reducible exact casketref13_Sum.mono _ _)
      | (with_reducible exact LeO.refl _)
      | (with_reducible exact LeO.none _)
      | (with_reducible refine LeO.ite ?_ ?_)
      | (with_reducible refine LeO.bind ?_ (fun _ => ?_))
      | exact casketref13_Sum.mono _ _
      | exact LeO.none _
      | refine LeO.ite ?_ ?_
      | refine LeO.bind ?_ (fun _ => ?_)

/-! ### casketref20_Many: function 24 -/
mutual

def casketref20_Many.j0 : Nat → Int → Int → Int → Int → Bool → Option (Int)
  | 0, _, _, _, _, _ => none
  | k + 1, x0, x1, x2, x3, x18 => if x18 = true then (some 0) else (if x3 < x0 then (casketref20_Many.j1 k x0 x1 x2 x3 true) else (casketref20_Many.j1 k x0 x1 x2 x3 (decide ((wrap64 (x1 - 1)) < x2))))

def casketref20_Many.j1 : Nat → Int → Int → Int → Int → Bool → Option (Int)
  | 0, _, _, _, _, _ => none
  | k + 1, x0, x1, x2, x3, x27 => if x27 = true then (some 1) else ((casketref20_Half.f k (wrap64 (x1 - x0))).bind fun t420 => ((casketref20_Many.f k x0 (wrap64 (x0 + t420)) x2 x3).bind fun t421 => ((casketref20_Many.f k (wrap64 (x0 + t420)) x1 x2 x3).bind fun t422 => (some (wrap64 (t421 + t422))))))

def casketref20_Many.f : Nat → Int → Int → Int → Int → Option (Int)
  | 0, _, _, _, _ => none
  | k + 1, a0, a1, a2, a3 => if a2 ≤ a0 then (casketref20_Many.j0 k a0 a1 a2 a3 (decide ((wrap64 (a1 - 1)) ≤ a3))) else (casketref20_Many.j0 k a0 a1 a2 a3 false)
end

theorem casketref20_Many.mono_l : ∀ k, (∀ y0 y1 y2 y3, LeO (casketref20_Many.f k y0 y1 y2 y3) (casketref20_Many.f (k + 1) y0 y1 y2 y3)) ∧ (∀ y0 y1 y2 y3 y4, LeO (casketref20_Many.j0 k y0 y1 y2 y3 y4) (casketref20_Many.j0 (k + 1) y0 y1 y2 y3 y4)) ∧ (∀ y0 y1 y2 y3 y4, LeO (casketref20_Many.j1 k y0 y1 y2 y3 y4) (casketref20_Many.j1 (k + 1) y0 y1 y2 y3 y4))
  | 0 => ⟨fun _ _ _ _ r h => by simp [casketref20_Many.f] at h, fun _ _ _ _ _ r h => by simp [casketref20_Many.j0] at h, fun _ _ _ _ _ r h => by simp [casketref20_Many.j1] at h⟩
  | k + 1 => by
    obtain ⟨ih0, ih1, ih2⟩ := casketref20_Many.mono_l k
    refine ⟨?_, ?_, ?_⟩
    · intro y0 y1 y2 y3
      unfold casketref20_Many.f
      repeat' first
      | (with_reducible exact ih0 _ _ _ _)
      | (with_reducible exact ih1 _ _ _ _ _)
      | (with_reducible exact ih2 _ _ _ _ _)
      | (with_reducible exact casketref20_Half.mono _ _)
      | (with_reducible exact LeO.refl _)
      | (with_reducible exact LeO.none _)
      | (with_reducible refine LeO.ite ?_ ?_)
      | (with_reducible refine LeO.bind ?_ (fun _ => ?_))
      | exact ih0 _ _ _ _
      | exact ih1 _ _ _ _ _
      | exact ih2 _ _ _ _ _
      | exact casketref20_Half.mono _ _
      | exact LeO.none _
      | refine LeO.ite ?_ ?_
      | refine LeO.bind ?_ (fun _ => ?_)
    · intro y0 y1 y2 y3 y4
      unfold casketref20_Many.j0
      repeat' first
      | (with_reducible exact ih0 _ _ _ _)
      | (with_reducible exact ih1 _ _ _ _ _)
      | (with_reducible exact ih2 _ _ _ _ _)
      | (with_reducible exact casketref20_Half.mono _ _)
      | (with_reducible exact LeO.refl _)
      | (with_reducible exact LeO.none _)
      | (with_reducible refine LeO.ite ?_ ?_)
      | (with_reducible refine LeO.bind ?_ (fun _ => ?_))
      | exact ih0 _ _ _ _
      | exact ih1 _ _ _ _ _
      | exact ih2 _ _ _ _ _
      | exact casketref20_Half.mono _ _
      | exact LeO.none _
      | refine LeO.ite ?_ ?_
      | refine LeO.bind ?_ (fun _ => ?_)
    · intro y0 y1 y2 y3 y4
      unfold casketref20_Many.j1
      repeat' first
      | (with_reducible exact ih0 _ _ _ _)
      | (with_reducible exact ih1 _ _ _ _ _)
      | (with_reducible exact ih2 _ _ _ _ _)
      | (with_reducible exact casketref20_Half.mono _ _)
      | (with_reducible exact LeO.refl _)
      | (with_reducible exact LeO.none _)
      | (with_reducible refine LeO.ite ?_ ?_)
      | (with_reducible refine LeO.bind ?_ (fun _ => ?_))
      | exact ih0 _ _ _ _
      | exact ih1 _ _ _ _ _
      | exact ih2 _ _ _ _ _
      | exact casketref20_Half.mono _ _
      | exact LeO.none _
      | refine LeO.ite ?_ ?_
      | refine LeO.bind ?_ (fun _ => ?_)

theorem casketref20_Many.mono : ∀ a0 a1 a2 a3 k, LeO (casketref20_Many.f k a0 a1 a2 a3) (casketref20_Many.f (k + 1) a0 a1 a2 a3) := by
  intro a0 a1 a2 a3 k
  obtain ⟨ih0, ih1, ih2⟩ := casketref20_Many.mono_l k
  exact ih0 a0 a1 a2 a3

/-! ### casketref20_Sum: function 26 -/
def casketref20_Sum.f (k : Nat) (l0 : List Int) : Option (List Int) := (casketref13_Sum.f k l0).bind fun t497 => (some t497)

theorem casketref20_Sum.mono : ∀ a0 k, LeO (casketref20_Sum.f k a0) (casketref20_Sum.f (k + 1) a0) := by
  intro a0 k
  unfold casketref20_Sum.f
  repeat' first
      | (with_reducible exact casketref13_Sum.mono _ _)
      | (with_reducible exact LeO.refl _)
      | (with_reducible exact LeO.none _)
      | (with_reducible refine LeO.ite ?_ ?_)
      | (with_reducible refine LeO.bind ?_ (fun _ => ?_))
      | exact casketref13_Sum.mono _ _
      | exact LeO.none _
      | refine LeO.ite ?_ ?_
      | refine LeO.bind ?_ (fun _ => ?_)

/-! ### casketref20_made: function 44 -/
mutual

def casketref20_made.j0 : Nat → Int → Int → Int → List (List Int) → List (List Int) → Bool → Option (List Int × (List (List Int)))
  | 0, _, _, _, _, _, _ => none
  | k + 1, x0, x1, x2, x3, x4, x31 => if x31 = true then (if 0 < (x4.length : Int) then (if 1 ≤ (x4.length : Int) then (some (rd_L1 x4 0, (x4.drop 1))) else (none)) else (none)) else (if (wrap64 (x1 - x0)) = 1 then (if 0 ≤ (wrap64 (x0 - x2)) then (if (wrap64 (x0 - x2)) < (x3.length : Int) then (some (rd_L1 x3 (wrap64 (x0 - x2)), x4)) else (none)) else (none)) else ((casketref20_Half.f k (wrap64 (x1 - x0))).bind fun t537 => ((casketref20_made.f k x0 (wrap64 (x0 + t537)) x2 x3 x4).bind fun bt538 => ((casketref20_made.f k (wrap64 (x0 + t537)) x1 x2 x3 bt538.2).bind fun bt544 => ((casketref20_Node.f k bt538.1 bt544.1).bind fun t550 => (some (t550, bt544.2)))))))

def casketref20_made.f : Nat → Int → Int → Int → List (List Int) → List (List Int) → Option (List Int × (List (List Int)))
  | 0, _, _, _, _, _ => none
  | k + 1, a0, a1, a2, l3, l4 => if (wrap64 ((wrap64 (a2 + (l3.length : Int))) - 1)) < a0 then (casketref20_made.j0 k a0 a1 a2 l3 l4 true) else (casketref20_made.j0 k a0 a1 a2 l3 l4 (decide ((wrap64 (a1 - 1)) < a2)))
end

theorem casketref20_made.mono_l : ∀ k, (∀ y0 y1 y2 y3 y4, LeO (casketref20_made.f k y0 y1 y2 y3 y4) (casketref20_made.f (k + 1) y0 y1 y2 y3 y4)) ∧ (∀ y0 y1 y2 y3 y4 y5, LeO (casketref20_made.j0 k y0 y1 y2 y3 y4 y5) (casketref20_made.j0 (k + 1) y0 y1 y2 y3 y4 y5))
  | 0 => ⟨fun _ _ _ _ _ r h => by simp [casketref20_made.f] at h, fun _ _ _ _ _ _ r h => by simp [casketref20_made.j0] at h⟩
  | k + 1 => by
    obtain ⟨ih0, ih1⟩ := casketref20_made.mono_l k
    refine ⟨?_, ?_⟩
    · intro y0 y1 y2 y3 y4
      unfold casketref20_made.f
      repeat' first
      | (with_reducible exact ih0 _ _ _ _ _)
      | (with_reducible exact ih1 _ _ _ _ _ _)
      | (with_reducible exact casketref20_Half.mono _ _)
      | (with_reducible exact casketref20_Node.mono _ _ _)
      | (with_reducible exact LeO.refl _)
      | (with_reducible exact LeO.none _)
      | (with_reducible refine LeO.ite ?_ ?_)
      | (with_reducible refine LeO.bind ?_ (fun _ => ?_))
      | exact ih0 _ _ _ _ _
      | exact ih1 _ _ _ _ _ _
      | exact casketref20_Half.mono _ _
      | exact casketref20_Node.mono _ _ _
      | exact LeO.none _
      | refine LeO.ite ?_ ?_
      | refine LeO.bind ?_ (fun _ => ?_)
    · intro y0 y1 y2 y3 y4 y5
      unfold casketref20_made.j0
      repeat' first
      | (with_reducible exact ih0 _ _ _ _ _)
      | (with_reducible exact ih1 _ _ _ _ _ _)
      | (with_reducible exact casketref20_Half.mono _ _)
      | (with_reducible exact casketref20_Node.mono _ _ _)
      | (with_reducible exact LeO.refl _)
      | (with_reducible exact LeO.none _)
      | (with_reducible refine LeO.ite ?_ ?_)
      | (with_reducible refine LeO.bind ?_ (fun _ => ?_))
      | exact ih0 _ _ _ _ _
      | exact ih1 _ _ _ _ _ _
      | exact casketref20_Half.mono _ _
      | exact casketref20_Node.mono _ _ _
      | exact LeO.none _
      | refine LeO.ite ?_ ?_
      | refine LeO.bind ?_ (fun _ => ?_)

theorem casketref20_made.mono : ∀ a0 a1 a2 a3 a4 k, LeO (casketref20_made.f k a0 a1 a2 a3 a4) (casketref20_made.f (k + 1) a0 a1 a2 a3 a4) := by
  intro a0 a1 a2 a3 a4 k
  obtain ⟨ih0, ih1⟩ := casketref20_made.mono_l k
  exact ih0 a0 a1 a2 a3 a4

/-! ### casketref20_Rebuild: function 27 -/
def casketref20_Rebuild.j0 : Nat → Int → Int → List (List Int) → List (List Int) → Bool → Option (List Int × Int)
  | 0, _, _, _, _, _ => none
  | k + 1, x0, x1, x2, x3, x39 => if x39 = true then (some (([] : List Int), 1)) else ((casketref20_Many.f k 0 x0 x1 (wrap64 ((wrap64 (x1 + (x2.length : Int))) - 1))).bind fun t553 => (if (x3.length : Int) = t553 then ((casketref20_made.f k 0 x0 x1 x2 x3).bind fun bt554 => ((some (([] : List Int) : List Int)).bind fun y560 => (if y560.length + bt554.1.length < 140737488355328 then (some ((y560 ++ bt554.1), 0)) else (none)))) else (some (([] : List Int), 8))))

def casketref20_Rebuild.f (k : Nat) (a0 : Int) (a1 : Int) (l2 : List (List Int)) (l3 : List (List Int)) : Option (List Int × Int) := if a0 < 1 then (casketref20_Rebuild.j0 k a0 a1 l2 l3 true) else (if a0 > 1048576 then (casketref20_Rebuild.j0 k a0 a1 l2 l3 true) else (if (l2.length : Int) = 0 then (casketref20_Rebuild.j0 k a0 a1 l2 l3 true) else (if a1 < 0 then (casketref20_Rebuild.j0 k a0 a1 l2 l3 true) else (if a1 ≥ a0 then (casketref20_Rebuild.j0 k a0 a1 l2 l3 true) else (casketref20_Rebuild.j0 k a0 a1 l2 l3 (decide ((l2.length : Int) > (wrap64 (a0 - a1)))))))))

theorem casketref20_Rebuild.mono_l : ∀ k, (∀ y0 y1 y2 y3 y4, LeO (casketref20_Rebuild.j0 k y0 y1 y2 y3 y4) (casketref20_Rebuild.j0 (k + 1) y0 y1 y2 y3 y4))
  | 0 => fun _ _ _ _ _ r h => by simp [casketref20_Rebuild.j0] at h
  | k + 1 => by
    have ih0 := casketref20_Rebuild.mono_l k
    · intro y0 y1 y2 y3 y4
      unfold casketref20_Rebuild.j0
      repeat' first
      | (with_reducible exact ih0 _ _ _ _ _)
      | (with_reducible exact casketref20_Many.mono _ _ _ _ _)
      | (with_reducible exact casketref20_made.mono _ _ _ _ _ _)
      | (with_reducible exact LeO.refl _)
      | (with_reducible exact LeO.none _)
      | (with_reducible refine LeO.ite ?_ ?_)
      | (with_reducible refine LeO.bind ?_ (fun _ => ?_))
      | exact ih0 _ _ _ _ _
      | exact casketref20_Many.mono _ _ _ _ _
      | exact casketref20_made.mono _ _ _ _ _ _
      | exact LeO.none _
      | refine LeO.ite ?_ ?_
      | refine LeO.bind ?_ (fun _ => ?_)

theorem casketref20_Rebuild.mono : ∀ a0 a1 a2 a3 k, LeO (casketref20_Rebuild.f k a0 a1 a2 a3) (casketref20_Rebuild.f (k + 1) a0 a1 a2 a3) := by
  intro a0 a1 a2 a3 k
  have ih0 := casketref20_Rebuild.mono_l k
  unfold casketref20_Rebuild.f
  repeat' first
      | (with_reducible exact ih0 _ _ _ _ _)
      | (with_reducible exact casketref20_Many.mono _ _ _ _ _)
      | (with_reducible exact casketref20_made.mono _ _ _ _ _ _)
      | (with_reducible exact LeO.refl _)
      | (with_reducible exact LeO.none _)
      | (with_reducible refine LeO.ite ?_ ?_)
      | (with_reducible refine LeO.bind ?_ (fun _ => ?_))
      | exact ih0 _ _ _ _ _
      | exact casketref20_Many.mono _ _ _ _ _
      | exact casketref20_made.mono _ _ _ _ _ _
      | exact LeO.none _
      | refine LeO.ite ?_ ?_
      | refine LeO.bind ?_ (fun _ => ?_)

/-! ### casketref20_Verify: function 29 -/
def casketref20_Verify.f (k : Nat) (l0 : List Int) (a1 : Int) (a2 : Int) (l3 : List (List Int)) (l4 : List (List Int)) : Option (Bool) := (casketref20_Rebuild.f k a1 a2 l3 l4).bind fun bt573 => (if bt573.2 = 0 then ((casketref01_Same.f k bt573.1 l0).bind fun t577 => (some t577)) else (some false))

theorem casketref20_Verify.mono : ∀ a0 a1 a2 a3 a4 k, LeO (casketref20_Verify.f k a0 a1 a2 a3 a4) (casketref20_Verify.f (k + 1) a0 a1 a2 a3 a4) := by
  intro a0 a1 a2 a3 a4 k
  unfold casketref20_Verify.f
  repeat' first
      | (with_reducible exact casketref01_Same.mono _ _ _)
      | (with_reducible exact casketref20_Rebuild.mono _ _ _ _ _)
      | (with_reducible exact LeO.refl _)
      | (with_reducible exact LeO.none _)
      | (with_reducible refine LeO.ite ?_ ?_)
      | (with_reducible refine LeO.bind ?_ (fun _ => ?_))
      | exact casketref01_Same.mono _ _ _
      | exact casketref20_Rebuild.mono _ _ _ _ _
      | exact LeO.none _
      | refine LeO.ite ?_ ?_
      | refine LeO.bind ?_ (fun _ => ?_)

/-! ### casketlaw20_bits: function 30 -/
def casketlaw20_bits.l0 : Nat → Int → Int → Option (Int)
  | 0, _, _ => none
  | k + 1, x0, x3 => if x0 > 0 then (casketlaw20_bits.l0 k (wrap64 (Int.tdiv x0 2)) (wrap64 (x3 + 1))) else (some x3)

def casketlaw20_bits.f (k : Nat) (a0 : Int) : Option (Int) := casketlaw20_bits.l0 k a0 0

theorem casketlaw20_bits.mono_l : ∀ k, (∀ y0 y1, LeO (casketlaw20_bits.l0 k y0 y1) (casketlaw20_bits.l0 (k + 1) y0 y1))
  | 0 => fun _ _ r h => by simp [casketlaw20_bits.l0] at h
  | k + 1 => by
    have ih0 := casketlaw20_bits.mono_l k
    · intro y0 y1
      unfold casketlaw20_bits.l0
      repeat' first
      | (with_reducible exact ih0 _ _)
      | (with_reducible exact LeO.refl _)
      | (with_reducible exact LeO.none _)
      | (with_reducible refine LeO.ite ?_ ?_)
      | (with_reducible refine LeO.bind ?_ (fun _ => ?_))
      | exact ih0 _ _
      | exact LeO.none _
      | refine LeO.ite ?_ ?_
      | refine LeO.bind ?_ (fun _ => ?_)

theorem casketlaw20_bits.mono : ∀ a0 k, LeO (casketlaw20_bits.f k a0) (casketlaw20_bits.f (k + 1) a0) := by
  intro a0 k
  have ih0 := casketlaw20_bits.mono_l k
  unfold casketlaw20_bits.f
  repeat' first
      | (with_reducible exact ih0 _ _)
      | (with_reducible exact LeO.refl _)
      | (with_reducible exact LeO.none _)
      | (with_reducible refine LeO.ite ?_ ?_)
      | (with_reducible refine LeO.bind ?_ (fun _ => ?_))
      | exact ih0 _ _
      | exact LeO.none _
      | refine LeO.ite ?_ ?_
      | refine LeO.bind ?_ (fun _ => ?_)

end Go.Proofs.YtgdogjnjbinoiaaDoor.Q
