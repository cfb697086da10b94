/- The pure functions (plain Lean over whole numbers and lists) of: casketref16_number, casketref16_Clamped, casketref16_mul, casketref16_add, casketref16_trim, casketref16_less, casketref16_prime, casketref16_sub, casketref16_rest, casketref16_MAC, casketlaw16_plus. -/
import Derived.Test.YtllaobhheokafaaWWords
import Derived.Test.YtllaobhheokafaaWAll
namespace Go.Proofs.Ytllaobhheokafaa.Q
open Go.RowKit Go.Proofs.YtllaobhheokafaaW.PrintWords Go.Proofs.YtllaobhheokafaaW.PrintLast Go.Proofs.YtllaobhheokafaaW.PrintMore
attribute [local go_sem] max2_int min2_int max_two min_two max_three min_three max_four min_four   -- for this text's walks alone
set_option linter.unusedVariables false
set_option linter.unusedSimpArgs false

/-! ### casketref16_number: function 54 -/
def casketref16_number.l0 : Nat → List Int → List Int → Int → Option (List Int)
  | 0, _, _, _ => none
  | k + 1, x0, x3, x4 => if x4 < (x0.length : Int) then (if 0 ≤ x4 then (if x3.length < 17592186044416 then (casketref16_number.l0 k x0 (x3 ++ [wrap64 (rd x0 x4)]) (wrap64 (x4 + 1))) else (none)) else (none)) else (some x3)

def casketref16_number.f (k : Nat) (l0 : List Int) : Option (List Int) := casketref16_number.l0 k l0 ([] : List Int) 0

theorem casketref16_number.mono_l : ∀ k, (∀ y0 y1 y2, LeO (casketref16_number.l0 k y0 y1 y2) (casketref16_number.l0 (k + 1) y0 y1 y2))
  | 0 => fun _ _ _ r h => by simp [casketref16_number.l0] at h
  | k + 1 => by
    have ih0 := casketref16_number.mono_l k
    · intro y0 y1 y2
      unfold casketref16_number.l0
      repeat' first
      | (with_reducible exact ih0 _ _ _)
      | (with_reducible exact LeO.refl _)
      | (with_reducible exact LeO.none _)
      | (with_reducible refine LeO.ite ?_ ?_)
      | (with_reducible refine LeO.bind ?_ (fun _ => ?_))
      | exact ih0 _ _ _
      | exact LeO.none _
      | refine LeO.ite ?_ ?_
      | refine LeO.bind ?_ (fun _ => ?_)

theorem casketref16_number.mono : ∀ a0 k, LeO (casketref16_number.f k a0) (casketref16_number.f (k + 1) a0) := by
  intro a0 k
  have ih0 := casketref16_number.mono_l k
  unfold casketref16_number.f
  repeat' first
      | (with_reducible exact ih0 _ _ _)
      | (with_reducible exact LeO.refl _)
      | (with_reducible exact LeO.none _)
      | (with_reducible refine LeO.ite ?_ ?_)
      | (with_reducible refine LeO.bind ?_ (fun _ => ?_))
      | exact ih0 _ _ _
      | exact LeO.none _
      | refine LeO.ite ?_ ?_
      | refine LeO.bind ?_ (fun _ => ?_)

/-! ### casketref16_Clamped: function 53 -/
mutual

def casketref16_Clamped.l0 : Nat → List Int → Int → Option (List Int)
  | 0, _, _ => none
  | k + 1, x3, x4 => if x4 < 16 then (if 0 ≤ x4 then (if x4 < (x3.length : Int) then (casketref16_Clamped.l0 k (x3.set (x4 : Int).toNat (Int.tmod (rd x3 x4) 16)) (wrap64 (x4 + 4))) else (none)) else (none)) else (casketref16_Clamped.l1 k x3 4)

def casketref16_Clamped.l1 : Nat → List Int → Int → Option (List Int)
  | 0, _, _ => none
  | k + 1, x3, x5 => if x5 < 16 then (if 0 ≤ x5 then (if x5 < (x3.length : Int) then (casketref16_Clamped.l1 k (x3.set (x5 : Int).toNat (wrap64 ((rd x3 x5) - (Int.tmod (rd x3 x5) 4)))) (wrap64 (x5 + 4))) else (none)) else (none)) else (some x3)
end

def casketref16_Clamped.f (k : Nat) (l0 : List Int) : Option (List Int) := if 16 ≤ (l0.length : Int) then ((casketref16_number.f k (l0.take 16)).bind fun t315 => (casketref16_Clamped.l0 k t315 3)) else (none)

theorem casketref16_Clamped.mono_l : ∀ k, (∀ y0 y1, LeO (casketref16_Clamped.l0 k y0 y1) (casketref16_Clamped.l0 (k + 1) y0 y1)) ∧ (∀ y0 y1, LeO (casketref16_Clamped.l1 k y0 y1) (casketref16_Clamped.l1 (k + 1) y0 y1))
  | 0 => ⟨fun _ _ r h => by simp [casketref16_Clamped.l0] at h, fun _ _ r h => by simp [casketref16_Clamped.l1] at h⟩
  | k + 1 => by
    obtain ⟨ih0, ih1⟩ := casketref16_Clamped.mono_l k
    refine ⟨?_, ?_⟩
    · intro y0 y1
      unfold casketref16_Clamped.l0
      repeat' first
      | (with_reducible exact ih0 _ _)
      | (with_reducible exact ih1 _ _)
      | (with_reducible exact casketref16_number.mono _ _)
      | (with_reducible exact LeO.refl _)
      | (with_reducible exact LeO.none _)
      | (with_reducible refine LeO.ite ?_ ?_)
      | (with_reducible refine LeO.bind ?_ (fun _ => ?_))
      | exact ih0 _ _
      | exact ih1 _ _
      | exact casketref16_number.mono _ _
      | exact LeO.none _
      | refine LeO.ite ?_ ?_
      | refine LeO.bind ?_ (fun _ => ?_)
    · intro y0 y1
      unfold casketref16_Clamped.l1
      repeat' first
      | (with_reducible exact ih0 _ _)
      | (with_reducible exact ih1 _ _)
      | (with_reducible exact casketref16_number.mono _ _)
      | (with_reducible exact LeO.refl _)
      | (with_reducible exact LeO.none _)
      | (with_reducible refine LeO.ite ?_ ?_)
      | (with_reducible refine LeO.bind ?_ (fun _ => ?_))
      | exact ih0 _ _
      | exact ih1 _ _
      | exact casketref16_number.mono _ _
      | exact LeO.none _
      | refine LeO.ite ?_ ?_
      | refine LeO.bind ?_ (fun _ => ?_)

theorem casketref16_Clamped.mono : ∀ a0 k, LeO (casketref16_Clamped.f k a0) (casketref16_Clamped.f (k + 1) a0) := by
  intro a0 k
  obtain ⟨ih0, ih1⟩ := casketref16_Clamped.mono_l k
  unfold casketref16_Clamped.f
  repeat' first
      | (with_reducible exact ih0 _ _)
      | (with_reducible exact ih1 _ _)
      | (with_reducible exact casketref16_number.mono _ _)
      | (with_reducible exact LeO.refl _)
      | (with_reducible exact LeO.none _)
      | (with_reducible refine LeO.ite ?_ ?_)
      | (with_reducible refine LeO.bind ?_ (fun _ => ?_))
      | exact ih0 _ _
      | exact ih1 _ _
      | exact casketref16_number.mono _ _
      | exact LeO.none _
      | refine LeO.ite ?_ ?_
      | refine LeO.bind ?_ (fun _ => ?_)

/-! ### casketref16_mul: function 56 -/
mutual

def casketref16_mul.l0 : Nat → List Int → List Int → List Int → Int → Option (List Int)
  | 0, _, _, _, _ => none
  | k + 1, x0, x1, x5, x6 => if x6 < (x0.length : Int) then (casketref16_mul.l1 k x0 x1 x5 x6 0 0) else (some x5)

def casketref16_mul.l1 : Nat → List Int → List Int → List Int → Int → Int → Int → Option (List Int)
  | 0, _, _, _, _, _, _ => none
  | k + 1, x0, x1, x5, x6, x7, x8 => if x8 < (x1.length : Int) then (casketref16_mul.j2 k x0 x1 x5 x6 x7 x8 true) else (casketref16_mul.j2 k x0 x1 x5 x6 x7 x8 (decide (x7 > 0)))

def casketref16_mul.j2 : Nat → List Int → List Int → List Int → Int → Int → Int → Bool → Option (List Int)
  | 0, _, _, _, _, _, _, _ => none
  | k + 1, x0, x1, x5, x6, x7, x8, x30 => if x30 = true then (if 0 ≤ (wrap64 (x6 + x8)) then (if (wrap64 (x6 + x8)) < (x5.length : Int) then (if x8 < (x1.length : Int) then (if 0 ≤ x6 then (if x6 < (x0.length : Int) then (if 0 ≤ x8 then (casketref16_mul.l1 k x0 x1 (x5.set ((wrap64 (x6 + x8)) : Int).toNat (Int.tmod (wrap64 ((wrap64 ((rd x5 (wrap64 (x6 + x8))) + x7)) + (wrap64 ((rd x0 x6) * (rd x1 x8))))) 256)) x6 (wrap64 (Int.tdiv (wrap64 ((wrap64 ((rd x5 (wrap64 (x6 + x8))) + x7)) + (wrap64 ((rd x0 x6) * (rd x1 x8))))) 256)) (wrap64 (x8 + 1))) else (none)) else (none)) else (none)) else (casketref16_mul.l1 k x0 x1 (x5.set ((wrap64 (x6 + x8)) : Int).toNat (Int.tmod (wrap64 ((rd x5 (wrap64 (x6 + x8))) + x7)) 256)) x6 (wrap64 (Int.tdiv (wrap64 ((rd x5 (wrap64 (x6 + x8))) + x7)) 256)) (wrap64 (x8 + 1)))) else (none)) else (none)) else (casketref16_mul.l0 k x0 x1 x5 (wrap64 (x6 + 1)))
end

def casketref16_mul.f (k : Nat) (l0 : List Int) (l1 : List Int) : Option (List Int) := if 0 ≤ (wrap64 ((wrap64 ((l0.length : Int) + (l1.length : Int))) + 1)) then (if (wrap64 ((wrap64 ((l0.length : Int) + (l1.length : Int))) + 1) : Int).toNat ≤ 35184372088832 then (casketref16_mul.l0 k l0 l1 (List.replicate (wrap64 ((wrap64 ((l0.length : Int) + (l1.length : Int))) + 1) : Int).toNat 0) 0) else (none)) else (none)

theorem casketref16_mul.mono_l : ∀ k, (∀ y0 y1 y2 y3, LeO (casketref16_mul.l0 k y0 y1 y2 y3) (casketref16_mul.l0 (k + 1) y0 y1 y2 y3)) ∧ (∀ y0 y1 y2 y3 y4 y5, LeO (casketref16_mul.l1 k y0 y1 y2 y3 y4 y5) (casketref16_mul.l1 (k + 1) y0 y1 y2 y3 y4 y5)) ∧ (∀ y0 y1 y2 y3 y4 y5 y6, LeO (casketref16_mul.j2 k y0 y1 y2 y3 y4 y5 y6) (casketref16_mul.j2 (k + 1) y0 y1 y2 y3 y4 y5 y6))
  | 0 => ⟨fun _ _ _ _ r h => by simp [casketref16_mul.l0] at h, fun _ _ _ _ _ _ r h => by simp [casketref16_mul.l1] at h, fun _ _ _ _ _ _ _ r h => by simp [casketref16_mul.j2] at h⟩
  | k + 1 => by
    obtain ⟨ih0, ih1, ih2⟩ := casketref16_mul.mono_l k
    refine ⟨?_, ?_, ?_⟩
    · intro y0 y1 y2 y3
      unfold casketref16_mul.l0
      repeat' first
      | (with_reducible exact ih0 _ _ _ _)
      | (with_reducible exact ih1 _ _ _ _ _ _)
      | (with_reducible exact ih2 _ _ _ _ _ _ _)
      | (with_reducible exact LeO.refl _)
      | (with_reducible exact LeO.none _)
      | (with_reducible refine LeO.ite ?_ ?_)
      | (with_reducible refine LeO.bind ?_ (fun _ => ?_))
      | exact ih0 _ _ _ _
      | exact ih1 _ _ _ _ _ _
      | exact ih2 _ _ _ _ _ _ _
      | exact LeO.none _
      | refine LeO.ite ?_ ?_
      | refine LeO.bind ?_ (fun _ => ?_)
    · intro y0 y1 y2 y3 y4 y5
      unfold casketref16_mul.l1
      repeat' first
      | (with_reducible exact ih0 _ _ _ _)
      | (with_reducible exact ih1 _ _ _ _ _ _)
      | (with_reducible exact ih2 _ _ _ _ _ _ _)
      | (with_reducible exact LeO.refl _)
      | (with_reducible exact LeO.none _)
      | (with_reducible refine LeO.ite ?_ ?_)
      | (with_reducible refine LeO.bind ?_ (fun _ => ?_))
      | exact ih0 _ _ _ _
      | exact ih1 _ _ _ _ _ _
      | exact ih2 _ _ _ _ _ _ _
      | exact LeO.none _
      | refine LeO.ite ?_ ?_
      | refine LeO.bind ?_ (fun _ => ?_)
    · intro y0 y1 y2 y3 y4 y5 y6
      unfold casketref16_mul.j2
      repeat' first
      | (with_reducible exact ih0 _ _ _ _)
      | (with_reducible exact ih1 _ _ _ _ _ _)
      | (with_reducible exact ih2 _ _ _ _ _ _ _)
      | (with_reducible exact LeO.refl _)
      | (with_reducible exact LeO.none _)
      | (with_reducible refine LeO.ite ?_ ?_)
      | (with_reducible refine LeO.bind ?_ (fun _ => ?_))
      | exact ih0 _ _ _ _
      | exact ih1 _ _ _ _ _ _
      | exact ih2 _ _ _ _ _ _ _
      | exact LeO.none _
      | refine LeO.ite ?_ ?_
      | refine LeO.bind ?_ (fun _ => ?_)

theorem casketref16_mul.mono : ∀ a0 a1 k, LeO (casketref16_mul.f k a0 a1) (casketref16_mul.f (k + 1) a0 a1) := by
  intro a0 a1 k
  obtain ⟨ih0, ih1, ih2⟩ := casketref16_mul.mono_l k
  unfold casketref16_mul.f
  repeat' first
      | (with_reducible exact ih0 _ _ _ _)
      | (with_reducible exact ih1 _ _ _ _ _ _)
      | (with_reducible exact ih2 _ _ _ _ _ _ _)
      | (with_reducible exact LeO.refl _)
      | (with_reducible exact LeO.none _)
      | (with_reducible refine LeO.ite ?_ ?_)
      | (with_reducible refine LeO.bind ?_ (fun _ => ?_))
      | exact ih0 _ _ _ _
      | exact ih1 _ _ _ _ _ _
      | exact ih2 _ _ _ _ _ _ _
      | exact LeO.none _
      | refine LeO.ite ?_ ?_
      | refine LeO.bind ?_ (fun _ => ?_)

/-! ### casketref16_add: function 57 -/
mutual

def casketref16_add.l0 : Nat → List Int → List Int → List Int → Int → Int → Option (List Int)
  | 0, _, _, _, _, _ => none
  | k + 1, x0, x1, x5, x6, x7 => if x7 < (x0.length : Int) then (casketref16_add.j1 k x0 x1 x5 x6 x7 true) else (if x7 < (x1.length : Int) then (casketref16_add.j1 k x0 x1 x5 x6 x7 true) else (casketref16_add.j1 k x0 x1 x5 x6 x7 (decide (x6 > 0))))

def casketref16_add.j1 : Nat → List Int → List Int → List Int → Int → Int → Bool → Option (List Int)
  | 0, _, _, _, _, _, _ => none
  | k + 1, x0, x1, x5, x6, x7, x22 => if x22 = true then (if x7 < (x0.length : Int) then (if 0 ≤ x7 then (if x7 < (x1.length : Int) then (if x5.length < 17592186044416 then (casketref16_add.l0 k x0 x1 (x5 ++ [Int.tmod (wrap64 ((wrap64 (x6 + (rd x0 x7))) + (rd x1 x7))) 256]) (wrap64 (Int.tdiv (wrap64 ((wrap64 (x6 + (rd x0 x7))) + (rd x1 x7))) 256)) (wrap64 (x7 + 1))) else (none)) else (if x5.length < 17592186044416 then (casketref16_add.l0 k x0 x1 (x5 ++ [Int.tmod (wrap64 (x6 + (rd x0 x7))) 256]) (wrap64 (Int.tdiv (wrap64 (x6 + (rd x0 x7))) 256)) (wrap64 (x7 + 1))) else (none))) else (none)) else (if x7 < (x1.length : Int) then (if 0 ≤ x7 then (if x5.length < 17592186044416 then (casketref16_add.l0 k x0 x1 (x5 ++ [Int.tmod (wrap64 (x6 + (rd x1 x7))) 256]) (wrap64 (Int.tdiv (wrap64 (x6 + (rd x1 x7))) 256)) (wrap64 (x7 + 1))) else (none)) else (none)) else (if x5.length < 17592186044416 then (casketref16_add.l0 k x0 x1 (x5 ++ [Int.tmod x6 256]) (wrap64 (Int.tdiv x6 256)) (wrap64 (x7 + 1))) else (none)))) else (some x5)
end

def casketref16_add.f (k : Nat) (l0 : List Int) (l1 : List Int) : Option (List Int) := casketref16_add.l0 k l0 l1 ([] : List Int) 0 0

theorem casketref16_add.mono_l : ∀ k, (∀ y0 y1 y2 y3 y4, LeO (casketref16_add.l0 k y0 y1 y2 y3 y4) (casketref16_add.l0 (k + 1) y0 y1 y2 y3 y4)) ∧ (∀ y0 y1 y2 y3 y4 y5, LeO (casketref16_add.j1 k y0 y1 y2 y3 y4 y5) (casketref16_add.j1 (k + 1) y0 y1 y2 y3 y4 y5))
  | 0 => ⟨fun _ _ _ _ _ r h => by simp [casketref16_add.l0] at h, fun _ _ _ _ _ _ r h => by simp [casketref16_add.j1] at h⟩
  | k + 1 => by
    obtain ⟨ih0, ih1⟩ := casketref16_add.mono_l k
    refine ⟨?_, ?_⟩
    · intro y0 y1 y2 y3 y4
      unfold casketref16_add.l0
      repeat' first
      | (with_reducible exact ih0 _ _ _ _ _)
      | (with_reducible exact ih1 _ _ _ _ _ _)
      | (with_reducible exact LeO.refl _)
      | (with_reducible exact LeO.none _)
      | (with_reducible refine LeO.ite ?_ ?_)
      | (with_reducible refine LeO.bind ?_ (fun _ => ?_))
      | exact ih0 _ _ _ _ _
      | exact ih1 _ _ _ _ _ _
      | exact LeO.none _
      | refine LeO.ite ?_ ?_
      | refine LeO.bind ?_ (fun _ => ?_)
    · intro y0 y1 y2 y3 y4 y5
      unfold casketref16_add.j1
      repeat' first
      | (with_reducible exact ih0 _ _ _ _ _)
      | (with_reducible exact ih1 _ _ _ _ _ _)
      | (with_reducible exact LeO.refl _)
      | (with_reducible exact LeO.none _)
      | (with_reducible refine LeO.ite ?_ ?_)
      | (with_reducible refine LeO.bind ?_ (fun _ => ?_))
      | exact ih0 _ _ _ _ _
      | exact ih1 _ _ _ _ _ _
      | exact LeO.none _
      | refine LeO.ite ?_ ?_
      | refine LeO.bind ?_ (fun _ => ?_)

theorem casketref16_add.mono : ∀ a0 a1 k, LeO (casketref16_add.f k a0 a1) (casketref16_add.f (k + 1) a0 a1) := by
  intro a0 a1 k
  obtain ⟨ih0, ih1⟩ := casketref16_add.mono_l k
  unfold casketref16_add.f
  repeat' first
      | (with_reducible exact ih0 _ _ _ _ _)
      | (with_reducible exact ih1 _ _ _ _ _ _)
      | (with_reducible exact LeO.refl _)
      | (with_reducible exact LeO.none _)
      | (with_reducible refine LeO.ite ?_ ?_)
      | (with_reducible refine LeO.bind ?_ (fun _ => ?_))
      | exact ih0 _ _ _ _ _
      | exact ih1 _ _ _ _ _ _
      | exact LeO.none _
      | refine LeO.ite ?_ ?_
      | refine LeO.bind ?_ (fun _ => ?_)

/-! ### casketref16_trim: function 66 -/
def casketref16_trim.l0 : Nat → List Int → Option (List Int)
  | 0, _ => none
  | k + 1, x0 => if (x0.length : Int) > 0 then (if 0 ≤ (wrap64 ((x0.length : Int) - 1)) then (if (wrap64 ((x0.length : Int) - 1)) < (x0.length : Int) then (if (rd x0 (wrap64 ((x0.length : Int) - 1))) = 0 then (if (wrap64 ((x0.length : Int) - 1)) ≤ (x0.length : Int) then (casketref16_trim.l0 k (x0.take ((wrap64 ((x0.length : Int) - 1)) : Int).toNat)) else (none)) else (some x0)) else (none)) else (none)) else (some x0)

def casketref16_trim.f (k : Nat) (l0 : List Int) : Option (List Int) := casketref16_trim.l0 k l0

theorem casketref16_trim.mono_l : ∀ k, (∀ y0, LeO (casketref16_trim.l0 k y0) (casketref16_trim.l0 (k + 1) y0))
  | 0 => fun _ r h => by simp [casketref16_trim.l0] at h
  | k + 1 => by
    have ih0 := casketref16_trim.mono_l k
    · intro y0
      unfold casketref16_trim.l0
      repeat' first
      | (with_reducible exact ih0 _)
      | (with_reducible exact LeO.refl _)
      | (with_reducible exact LeO.none _)
      | (with_reducible refine LeO.ite ?_ ?_)
      | (with_reducible refine LeO.bind ?_ (fun _ => ?_))
      | exact ih0 _
      | exact LeO.none _
      | refine LeO.ite ?_ ?_
      | refine LeO.bind ?_ (fun _ => ?_)

theorem casketref16_trim.mono : ∀ a0 k, LeO (casketref16_trim.f k a0) (casketref16_trim.f (k + 1) a0) := by
  intro a0 k
  have ih0 := casketref16_trim.mono_l k
  unfold casketref16_trim.f
  repeat' first
      | (with_reducible exact ih0 _)
      | (with_reducible exact LeO.refl _)
      | (with_reducible exact LeO.none _)
      | (with_reducible refine LeO.ite ?_ ?_)
      | (with_reducible refine LeO.bind ?_ (fun _ => ?_))
      | exact ih0 _
      | exact LeO.none _
      | refine LeO.ite ?_ ?_
      | refine LeO.bind ?_ (fun _ => ?_)

/-! ### casketref16_less: function 67 -/
def casketref16_less.l0 : Nat → List Int → List Int → Int → Option (Bool)
  | 0, _, _, _ => none
  | k + 1, x0, x1, x5 => if x5 ≥ 0 then (if 0 ≤ x5 then (if x5 < (x0.length : Int) then (if x5 < (x1.length : Int) then (if (rd x0 x5) = (rd x1 x5) then (casketref16_less.l0 k x0 x1 (wrap64 (x5 - 1))) else (some (decide ((rd x0 x5) < (rd x1 x5))))) else (none)) else (none)) else (none)) else (some false)

def casketref16_less.f (k : Nat) (l0 : List Int) (l1 : List Int) : Option (Bool) := if (l0.length : Int) = (l1.length : Int) then (casketref16_less.l0 k l0 l1 (wrap64 ((l0.length : Int) - 1))) else (some (decide ((l0.length : Int) < (l1.length : Int))))

theorem casketref16_less.mono_l : ∀ k, (∀ y0 y1 y2, LeO (casketref16_less.l0 k y0 y1 y2) (casketref16_less.l0 (k + 1) y0 y1 y2))
  | 0 => fun _ _ _ r h => by simp [casketref16_less.l0] at h
  | k + 1 => by
    have ih0 := casketref16_less.mono_l k
    · intro y0 y1 y2
      unfold casketref16_less.l0
      repeat' first
      | (with_reducible exact ih0 _ _ _)
      | (with_reducible exact LeO.refl _)
      | (with_reducible exact LeO.none _)
      | (with_reducible refine LeO.ite ?_ ?_)
      | (with_reducible refine LeO.bind ?_ (fun _ => ?_))
      | exact ih0 _ _ _
      | exact LeO.none _
      | refine LeO.ite ?_ ?_
      | refine LeO.bind ?_ (fun _ => ?_)

theorem casketref16_less.mono : ∀ a0 a1 k, LeO (casketref16_less.f k a0 a1) (casketref16_less.f (k + 1) a0 a1) := by
  intro a0 a1 k
  have ih0 := casketref16_less.mono_l k
  unfold casketref16_less.f
  repeat' first
      | (with_reducible exact ih0 _ _ _)
      | (with_reducible exact LeO.refl _)
      | (with_reducible exact LeO.none _)
      | (with_reducible refine LeO.ite ?_ ?_)
      | (with_reducible refine LeO.bind ?_ (fun _ => ?_))
      | exact ih0 _ _ _
      | exact LeO.none _
      | refine LeO.ite ?_ ?_
      | refine LeO.bind ?_ (fun _ => ?_)

/-! ### casketref16_prime: function 68 -/
def casketref16_prime.l0 : Nat → List Int → Int → Option (List Int)
  | 0, _, _ => none
  | k + 1, x1, x2 => if x2 < 16 then (if x1.length < 17592186044416 then (casketref16_prime.l0 k (x1 ++ [255]) (wrap64 (x2 + 1))) else (none)) else (if x1.length < 17592186044416 then (some (x1 ++ [3])) else (none))

def casketref16_prime.f (k : Nat)  : Option (List Int) := casketref16_prime.l0 k (([251] : List Int)) 1

theorem casketref16_prime.mono_l : ∀ k, (∀ y0 y1, LeO (casketref16_prime.l0 k y0 y1) (casketref16_prime.l0 (k + 1) y0 y1))
  | 0 => fun _ _ r h => by simp [casketref16_prime.l0] at h
  | k + 1 => by
    have ih0 := casketref16_prime.mono_l k
    · intro y0 y1
      unfold casketref16_prime.l0
      repeat' first
      | (with_reducible exact ih0 _ _)
      | (with_reducible exact LeO.refl _)
      | (with_reducible exact LeO.none _)
      | (with_reducible refine LeO.ite ?_ ?_)
      | (with_reducible refine LeO.bind ?_ (fun _ => ?_))
      | exact ih0 _ _
      | exact LeO.none _
      | refine LeO.ite ?_ ?_
      | refine LeO.bind ?_ (fun _ => ?_)

theorem casketref16_prime.mono : ∀ k, LeO (casketref16_prime.f k ) (casketref16_prime.f (k + 1) ) := by
  intro  k
  have ih0 := casketref16_prime.mono_l k
  unfold casketref16_prime.f
  repeat' first
      | (with_reducible exact ih0 _ _)
      | (with_reducible exact LeO.refl _)
      | (with_reducible exact LeO.none _)
      | (with_reducible refine LeO.ite ?_ ?_)
      | (with_reducible refine LeO.bind ?_ (fun _ => ?_))
      | exact ih0 _ _
      | exact LeO.none _
      | refine LeO.ite ?_ ?_
      | refine LeO.bind ?_ (fun _ => ?_)

/-! ### casketref16_sub: function 69 -/
def casketref16_sub.l0 : Nat → List Int → List Int → List Int → Int → Int → Option (List Int)
  | 0, _, _, _, _, _ => none
  | k + 1, x0, x1, x5, x6, x7 => if x7 < (x0.length : Int) then (if 0 ≤ x7 then (if x7 < (x1.length : Int) then (if (wrap64 ((wrap64 ((rd x0 x7) - x6)) - (rd x1 x7))) < 0 then (if x5.length < 17592186044416 then (casketref16_sub.l0 k x0 x1 (x5 ++ [wrap64 ((wrap64 ((wrap64 ((rd x0 x7) - x6)) - (rd x1 x7))) + 256)]) 1 (wrap64 (x7 + 1))) else (none)) else (if x5.length < 17592186044416 then (casketref16_sub.l0 k x0 x1 (x5 ++ [wrap64 ((wrap64 ((rd x0 x7) - x6)) - (rd x1 x7))]) 0 (wrap64 (x7 + 1))) else (none))) else (if (wrap64 ((rd x0 x7) - x6)) < 0 then (if x5.length < 17592186044416 then (casketref16_sub.l0 k x0 x1 (x5 ++ [wrap64 ((wrap64 ((rd x0 x7) - x6)) + 256)]) 1 (wrap64 (x7 + 1))) else (none)) else (if x5.length < 17592186044416 then (casketref16_sub.l0 k x0 x1 (x5 ++ [wrap64 ((rd x0 x7) - x6)]) 0 (wrap64 (x7 + 1))) else (none)))) else (none)) else ((casketref16_trim.f k x5).bind fun t365 => (some t365))

def casketref16_sub.f (k : Nat) (l0 : List Int) (l1 : List Int) : Option (List Int) := casketref16_sub.l0 k l0 l1 ([] : List Int) 0 0

theorem casketref16_sub.mono_l : ∀ k, (∀ y0 y1 y2 y3 y4, LeO (casketref16_sub.l0 k y0 y1 y2 y3 y4) (casketref16_sub.l0 (k + 1) y0 y1 y2 y3 y4))
  | 0 => fun _ _ _ _ _ r h => by simp [casketref16_sub.l0] at h
  | k + 1 => by
    have ih0 := casketref16_sub.mono_l k
    · intro y0 y1 y2 y3 y4
      unfold casketref16_sub.l0
      repeat' first
      | (with_reducible exact ih0 _ _ _ _ _)
      | (with_reducible exact casketref16_trim.mono _ _)
      | (with_reducible exact LeO.refl _)
      | (with_reducible exact LeO.none _)
      | (with_reducible refine LeO.ite ?_ ?_)
      | (with_reducible refine LeO.bind ?_ (fun _ => ?_))
      | exact ih0 _ _ _ _ _
      | exact casketref16_trim.mono _ _
      | exact LeO.none _
      | refine LeO.ite ?_ ?_
      | refine LeO.bind ?_ (fun _ => ?_)

theorem casketref16_sub.mono : ∀ a0 a1 k, LeO (casketref16_sub.f k a0 a1) (casketref16_sub.f (k + 1) a0 a1) := by
  intro a0 a1 k
  have ih0 := casketref16_sub.mono_l k
  unfold casketref16_sub.f
  repeat' first
      | (with_reducible exact ih0 _ _ _ _ _)
      | (with_reducible exact casketref16_trim.mono _ _)
      | (with_reducible exact LeO.refl _)
      | (with_reducible exact LeO.none _)
      | (with_reducible refine LeO.ite ?_ ?_)
      | (with_reducible refine LeO.bind ?_ (fun _ => ?_))
      | exact ih0 _ _ _ _ _
      | exact casketref16_trim.mono _ _
      | exact LeO.none _
      | refine LeO.ite ?_ ?_
      | refine LeO.bind ?_ (fun _ => ?_)

/-! ### casketref16_rest: function 55 -/
mutual

def casketref16_rest.l0 : Nat → List Int → Option (List Int)
  | 0, _ => none
  | k + 1, x0 => if (x0.length : Int) > 17 then (casketref16_rest.j1 k x0 true) else (if (x0.length : Int) = 17 then (if 16 < (x0.length : Int) then (casketref16_rest.j1 k x0 (decide ((rd x0 16) ≥ 4))) else (none)) else (casketref16_rest.j1 k x0 false))

def casketref16_rest.j1 : Nat → List Int → Bool → Option (List Int)
  | 0, _, _ => none
  | k + 1, x0, x22 => if x22 = true then ((some (([] : List Int) : List Int)).bind fun y386 => (if 16 ≤ (x0.length : Int) then ((some (x0.take 16 : List Int)).bind fun y389 => (if y386.length + y389.length < 17592186044416 then ((some (y386 ++ y389 : List Int)).bind fun y394 => (if 16 < (x0.length : Int) then (if y394.length < 17592186044416 then (casketref16_rest.l1 k x0 (y394 ++ [Int.tmod (rd x0 16) 4]) ([] : List Int) 16) else (none)) else (none))) else (none))) else (none))) else ((casketref16_prime.f k).bind fun t421 => ((casketref16_less.f k x0 t421).bind fun t424 => (if t424 = true then (some x0) else ((casketref16_prime.f k).bind fun t425 => ((casketref16_sub.f k x0 t425).bind fun t428 => (some t428))))))

def casketref16_rest.l1 : Nat → List Int → List Int → List Int → Int → Option (List Int)
  | 0, _, _, _, _ => none
  | k + 1, x0, x3, x4, x5 => if x5 < (x0.length : Int) then (if 0 ≤ x5 then (if (wrap64 (x5 + 1)) < (x0.length : Int) then (if 0 ≤ (wrap64 (x5 + 1)) then (if x4.length < 17592186044416 then (casketref16_rest.l1 k x0 x3 (x4 ++ [wrap64 ((wrap64 (Int.tdiv (rd x0 x5) 4)) + (wrap64 ((Int.tmod (rd x0 (wrap64 (x5 + 1))) 4) * 64)))]) (wrap64 (x5 + 1))) else (none)) else (none)) else (if x4.length < 17592186044416 then (casketref16_rest.l1 k x0 x3 (x4 ++ [wrap64 (Int.tdiv (rd x0 x5) 4)]) (wrap64 (x5 + 1))) else (none))) else (none)) else ((casketref16_mul.f k x4 (([5] : List Int))).bind fun t412 => ((casketref16_add.f k x3 t412).bind fun t415 => ((casketref16_trim.f k t415).bind fun t418 => (casketref16_rest.l0 k t418))))
end

def casketref16_rest.f (k : Nat) (l0 : List Int) : Option (List Int) := (casketref16_trim.f k l0).bind fun t382 => (casketref16_rest.l0 k t382)

theorem casketref16_rest.mono_l : ∀ k, (∀ y0, LeO (casketref16_rest.l0 k y0) (casketref16_rest.l0 (k + 1) y0)) ∧ (∀ y0 y1, LeO (casketref16_rest.j1 k y0 y1) (casketref16_rest.j1 (k + 1) y0 y1)) ∧ (∀ y0 y1 y2 y3, LeO (casketref16_rest.l1 k y0 y1 y2 y3) (casketref16_rest.l1 (k + 1) y0 y1 y2 y3))
  | 0 => ⟨fun _ r h => by simp [casketref16_rest.l0] at h, fun _ _ r h => by simp [casketref16_rest.j1] at h, fun _ _ _ _ r h => by simp [casketref16_rest.l1] at h⟩
  | k + 1 => by
    obtain ⟨ih0, ih1, ih2⟩ := casketref16_rest.mono_l k
    refine ⟨?_, ?_, ?_⟩
    · intro y0
      unfold casketref16_rest.l0
      repeat' first
      | (with_reducible exact ih0 _)
      | (with_reducible exact ih1 _ _)
      | (with_reducible exact ih2 _ _ _ _)
      | (with_reducible exact casketref16_add.mono _ _ _)
      | (with_reducible exact casketref16_less.mono _ _ _)
      | (with_reducible exact casketref16_mul.mono _ _ _)
      | (with_reducible exact casketref16_prime.mono _)
      | (with_reducible exact casketref16_sub.mono _ _ _)
      | (with_reducible exact casketref16_trim.mono _ _)
      | (with_reducible exact LeO.refl _)
      | (with_reducible exact LeO.none _)
      | (with_reducible refine LeO.ite ?_ ?_)
      | (with_reducible refine LeO.bind ?_ (fun _ => ?_))
      | exact ih0 _
      | exact ih1 _ _
      | exact ih2 _ _ _ _
      | exact casketref16_add.mono _ _ _
      | exact casketref16_less.mono _ _ _
      | exact casketref16_mul.mono _ _ _
      | exact casketref16_prime.mono _
      | exact casketref16_sub.mono _ _ _
      | exact casketref16_trim.mono _ _
      | exact LeO.none _
      | refine LeO.ite ?_ ?_
      | refine LeO.bind ?_ (fun _ => ?_)
    · intro y0 y1
      unfold casketref16_rest.j1
      repeat' first
      | (with_reducible exact ih0 _)
      | (with_reducible exact ih1 _ _)
      | (with_reducible exact ih2 _ _ _ _)
      | (with_reducible exact casketref16_add.mono _ _ _)
      | (with_reducible exact casketref16_less.mono _ _ _)
      | (with_reducible exact casketref16_mul.mono _ _ _)
      | (with_reducible exact casketref16_prime.mono _)
      | (with_reducible exact casketref16_sub.mono _ _ _)
      | (with_reducible exact casketref16_trim.mono _ _)
      | (with_reducible exact LeO.refl _)
      | (with_reducible exact LeO.none _)
      | (with_reducible refine LeO.ite ?_ ?_)
      | (with_reducible refine LeO.bind ?_ (fun _ => ?_))
      | exact ih0 _
      | exact ih1 _ _
      | exact ih2 _ _ _ _
      | exact casketref16_add.mono _ _ _
      | exact casketref16_less.mono _ _ _
      | exact casketref16_mul.mono _ _ _
      | exact casketref16_prime.mono _
      | exact casketref16_sub.mono _ _ _
      | exact casketref16_trim.mono _ _
      | exact LeO.none _
      | refine LeO.ite ?_ ?_
      | refine LeO.bind ?_ (fun _ => ?_)
    · intro y0 y1 y2 y3
      unfold casketref16_rest.l1
      repeat' first
      | (with_reducible exact ih0 _)
      | (with_reducible exact ih1 _ _)
      | (with_reducible exact ih2 _ _ _ _)
      | (with_reducible exact casketref16_add.mono _ _ _)
      | (with_reducible exact casketref16_less.mono _ _ _)
      | (with_reducible exact casketref16_mul.mono _ _ _)
      | (with_reducible exact casketref16_prime.mono _)
      | (with_reducible exact casketref16_sub.mono _ _ _)
      | (with_reducible exact casketref16_trim.mono _ _)
      | (with_reducible exact LeO.refl _)
      | (with_reducible exact LeO.none _)
      | (with_reducible refine LeO.ite ?_ ?_)
      | (with_reducible refine LeO.bind ?_ (fun _ => ?_))
      | exact ih0 _
      | exact ih1 _ _
      | exact ih2 _ _ _ _
      | exact casketref16_add.mono _ _ _
      | exact casketref16_less.mono _ _ _
      | exact casketref16_mul.mono _ _ _
      | exact casketref16_prime.mono _
      | exact casketref16_sub.mono _ _ _
      | exact casketref16_trim.mono _ _
      | exact LeO.none _
      | refine LeO.ite ?_ ?_
      | refine LeO.bind ?_ (fun _ => ?_)

theorem casketref16_rest.mono : ∀ a0 k, LeO (casketref16_rest.f k a0) (casketref16_rest.f (k + 1) a0) := by
  intro a0 k
  obtain ⟨ih0, ih1, ih2⟩ := casketref16_rest.mono_l k
  unfold casketref16_rest.f
  repeat' first
      | (with_reducible exact ih0 _)
      | (with_reducible exact ih1 _ _)
      | (with_reducible exact ih2 _ _ _ _)
      | (with_reducible exact casketref16_add.mono _ _ _)
      | (with_reducible exact casketref16_less.mono _ _ _)
      | (with_reducible exact casketref16_mul.mono _ _ _)
      | (with_reducible exact casketref16_prime.mono _)
      | (with_reducible exact casketref16_sub.mono _ _ _)
      | (with_reducible exact casketref16_trim.mono _ _)
      | (with_reducible exact LeO.refl _)
      | (with_reducible exact LeO.none _)
      | (with_reducible refine LeO.ite ?_ ?_)
      | (with_reducible refine LeO.bind ?_ (fun _ => ?_))
      | exact ih0 _
      | exact ih1 _ _
      | exact ih2 _ _ _ _
      | exact casketref16_add.mono _ _ _
      | exact casketref16_less.mono _ _ _
      | exact casketref16_mul.mono _ _ _
      | exact casketref16_prime.mono _
      | exact casketref16_sub.mono _ _ _
      | exact casketref16_trim.mono _ _
      | exact LeO.none _
      | refine LeO.ite ?_ ?_
      | refine LeO.bind ?_ (fun _ => ?_)

/-! ### casketref16_MAC: function 30 -/
mutual

def casketref16_MAC.l0 : Nat → List Int → List Int → List Int → List Int → Int → Option (List Int × Int)
  | 0, _, _, _, _, _ => none
  | k + 1, x0, x1, x6, x7, x8 => if x8 < (x1.length : Int) then (if 0 ≤ x8 then (if x8 ≤ (mn (wrap64 (x8 + 16)) (x1.length : Int)) then (if (mn (wrap64 (x8 + 16)) (x1.length : Int)) ≤ (x1.length : Int) then ((casketref16_number.f k ((x1.take ((mn (wrap64 (x8 + 16)) (x1.length : Int)) : Int).toNat).drop (x8 : Int).toNat)).bind fun t435 => (if t435.length < 17592186044416 then ((casketref16_add.f k x7 (t435 ++ [1])).bind fun t441 => ((casketref16_mul.f k t441 x6).bind fun t444 => ((casketref16_rest.f k t444).bind fun t447 => (casketref16_MAC.l0 k x0 x1 x6 t447 (wrap64 (x8 + 16)))))) else (none))) else (none)) else (none)) else (none)) else (if 16 ≤ (x0.length : Int) then ((casketref16_number.f k (x0.drop 16)).bind fun t451 => ((casketref16_add.f k x7 t451).bind fun t454 => (casketref16_MAC.l1 k t454 ([] : List Int) 0))) else (none))

def casketref16_MAC.l1 : Nat → List Int → List Int → Int → Option (List Int × Int)
  | 0, _, _, _ => none
  | k + 1, x7, x11, x12 => if x12 < 16 then (if x12 < (x7.length : Int) then (if 0 ≤ x12 then (if x11.length < 140737488355328 then (casketref16_MAC.l1 k x7 (x11 ++ [(rd x7 x12) % 256]) (wrap64 (x12 + 1))) else (none)) else (none)) else (if x11.length < 140737488355328 then (casketref16_MAC.l1 k x7 (x11 ++ [0]) (wrap64 (x12 + 1))) else (none))) else (some (x11, 0))
end

def casketref16_MAC.f (k : Nat) (l0 : List Int) (l1 : List Int) : Option (List Int × Int) := if (l0.length : Int) = 32 then ((casketref16_Clamped.f k l0).bind fun t431 => (casketref16_MAC.l0 k l0 l1 t431 ([] : List Int) 0)) else (some (([] : List Int), 1))

theorem casketref16_MAC.mono_l : ∀ k, (∀ y0 y1 y2 y3 y4, LeO (casketref16_MAC.l0 k y0 y1 y2 y3 y4) (casketref16_MAC.l0 (k + 1) y0 y1 y2 y3 y4)) ∧ (∀ y0 y1 y2, LeO (casketref16_MAC.l1 k y0 y1 y2) (casketref16_MAC.l1 (k + 1) y0 y1 y2))
  | 0 => ⟨fun _ _ _ _ _ r h => by simp [casketref16_MAC.l0] at h, fun _ _ _ r h => by simp [casketref16_MAC.l1] at h⟩
  | k + 1 => by
    obtain ⟨ih0, ih1⟩ := casketref16_MAC.mono_l k
    refine ⟨?_, ?_⟩
    · intro y0 y1 y2 y3 y4
      unfold casketref16_MAC.l0
      repeat' first
      | (with_reducible exact ih0 _ _ _ _ _)
      | (with_reducible exact ih1 _ _ _)
      | (with_reducible exact casketref16_Clamped.mono _ _)
      | (with_reducible exact casketref16_add.mono _ _ _)
      | (with_reducible exact casketref16_mul.mono _ _ _)
      | (with_reducible exact casketref16_number.mono _ _)
      | (with_reducible exact casketref16_rest.mono _ _)
      | (with_reducible exact LeO.refl _)
      | (with_reducible exact LeO.none _)
      | (with_reducible refine LeO.ite ?_ ?_)
      | (with_reducible refine LeO.bind ?_ (fun _ => ?_))
      | exact ih0 _ _ _ _ _
      | exact ih1 _ _ _
      | exact casketref16_Clamped.mono _ _
      | exact casketref16_add.mono _ _ _
      | exact casketref16_mul.mono _ _ _
      | exact casketref16_number.mono _ _
      | exact casketref16_rest.mono _ _
      | exact LeO.none _
      | refine LeO.ite ?_ ?_
      | refine LeO.bind ?_ (fun _ => ?_)
    · intro y0 y1 y2
      unfold casketref16_MAC.l1
      repeat' first
      | (with_reducible exact ih0 _ _ _ _ _)
      | (with_reducible exact ih1 _ _ _)
      | (with_reducible exact casketref16_Clamped.mono _ _)
      | (with_reducible exact casketref16_add.mono _ _ _)
      | (with_reducible exact casketref16_mul.mono _ _ _)
      | (with_reducible exact casketref16_number.mono _ _)
      | (with_reducible exact casketref16_rest.mono _ _)
      | (with_reducible exact LeO.refl _)
      | (with_reducible exact LeO.none _)
      | (with_reducible refine LeO.ite ?_ ?_)
      | (with_reducible refine LeO.bind ?_ (fun _ => ?_))
      | exact ih0 _ _ _ _ _
      | exact ih1 _ _ _
      | exact casketref16_Clamped.mono _ _
      | exact casketref16_add.mono _ _ _
      | exact casketref16_mul.mono _ _ _
      | exact casketref16_number.mono _ _
      | exact casketref16_rest.mono _ _
      | exact LeO.none _
      | refine LeO.ite ?_ ?_
      | refine LeO.bind ?_ (fun _ => ?_)

theorem casketref16_MAC.mono : ∀ a0 a1 k, LeO (casketref16_MAC.f k a0 a1) (casketref16_MAC.f (k + 1) a0 a1) := by
  intro a0 a1 k
  obtain ⟨ih0, ih1⟩ := casketref16_MAC.mono_l k
  unfold casketref16_MAC.f
  repeat' first
      | (with_reducible exact ih0 _ _ _ _ _)
      | (with_reducible exact ih1 _ _ _)
      | (with_reducible exact casketref16_Clamped.mono _ _)
      | (with_reducible exact casketref16_add.mono _ _ _)
      | (with_reducible exact casketref16_mul.mono _ _ _)
      | (with_reducible exact casketref16_number.mono _ _)
      | (with_reducible exact casketref16_rest.mono _ _)
      | (with_reducible exact LeO.refl _)
      | (with_reducible exact LeO.none _)
      | (with_reducible refine LeO.ite ?_ ?_)
      | (with_reducible refine LeO.bind ?_ (fun _ => ?_))
      | exact ih0 _ _ _ _ _
      | exact ih1 _ _ _
      | exact casketref16_Clamped.mono _ _
      | exact casketref16_add.mono _ _ _
      | exact casketref16_mul.mono _ _ _
      | exact casketref16_number.mono _ _
      | exact casketref16_rest.mono _ _
      | exact LeO.none _
      | refine LeO.ite ?_ ?_
      | refine LeO.bind ?_ (fun _ => ?_)

/-! ### casketlaw16_plus: function 32 -/
def casketlaw16_plus.l0 : Nat → List Int → List Int → List Int → Int → Int → Option (List Int)
  | 0, _, _, _, _, _ => none
  | k + 1, x0, x1, x5, x6, x7 => if x7 < 16 then (if 0 ≤ x7 then (if x7 < (x0.length : Int) then (if x7 < (x1.length : Int) then (if x5.length < 140737488355328 then (casketlaw16_plus.l0 k x0 x1 (x5 ++ [(wrap64 ((wrap64 ((wrap64 (rd x0 x7)) + (wrap64 (rd x1 x7)))) + x6)) % 256]) (wrap64 (Int.tdiv (wrap64 ((wrap64 ((wrap64 (rd x0 x7)) + (wrap64 (rd x1 x7)))) + x6)) 256)) (wrap64 (x7 + 1))) else (none)) else (none)) else (none)) else (none)) else (some x5)

def casketlaw16_plus.f (k : Nat) (l0 : List Int) (l1 : List Int) : Option (List Int) := casketlaw16_plus.l0 k l0 l1 ([] : List Int) 0 0

theorem casketlaw16_plus.mono_l : ∀ k, (∀ y0 y1 y2 y3 y4, LeO (casketlaw16_plus.l0 k y0 y1 y2 y3 y4) (casketlaw16_plus.l0 (k + 1) y0 y1 y2 y3 y4))
  | 0 => fun _ _ _ _ _ r h => by simp [casketlaw16_plus.l0] at h
  | k + 1 => by
    have ih0 := casketlaw16_plus.mono_l k
    · intro y0 y1 y2 y3 y4
      unfold casketlaw16_plus.l0
      repeat' first
      | (with_reducible exact ih0 _ _ _ _ _)
      | (with_reducible exact LeO.refl _)
      | (with_reducible exact LeO.none _)
      | (with_reducible refine LeO.ite ?_ ?_)
      | (with_reducible refine LeO.bind ?_ (fun _ => ?_))
      | exact ih0 _ _ _ _ _
      | exact LeO.none _
      | refine LeO.ite ?_ ?_
      | refine LeO.bind ?_ (fun _ => ?_)

theorem casketlaw16_plus.mono : ∀ a0 a1 k, LeO (casketlaw16_plus.f k a0 a1) (casketlaw16_plus.f (k + 1) a0 a1) := by
  intro a0 a1 k
  have ih0 := casketlaw16_plus.mono_l k
  unfold casketlaw16_plus.f
  repeat' first
      | (with_reducible exact ih0 _ _ _ _ _)
      | (with_reducible exact LeO.refl _)
      | (with_reducible exact LeO.none _)
      | (with_reducible refine LeO.ite ?_ ?_)
      | (with_reducible refine LeO.bind ?_ (fun _ => ?_))
      | exact ih0 _ _ _ _ _
      | exact LeO.none _
      | refine LeO.ite ?_ ?_
      | refine LeO.bind ?_ (fun _ => ?_)

end Go.Proofs.Ytllaobhheokafaa.Q
