/- The pure functions (plain Lean over whole numbers and lists) of: casketlaw20_MerkleHolds. -/
import Derived.Test.YtgdogjnjbinoiaaDoorWWordsX
import Derived.Test.YtgdogjnjbinoiaaDoorDmerkw
import Derived.Test.YtgdogjnjbinoiaaDoorDmprove
import Derived.Test.YtgdogjnjbinoiaaDoorDmroot
import Derived.Test.YtgdogjnjbinoiaaDoorDmrebX
import Derived.Test.YtgdogjnjbinoiaaDoorDref20
namespace Go.Proofs.YtgdogjnjbinoiaaDoor.Q
open Go.RowKit Go.Proofs.YtgdogjnjbinoiaaDoorW.PrintWords Go.Proofs.YtgdogjnjbinoiaaDoorW.PrintLast Go.Proofs.YtgdogjnjbinoiaaDoorW.PrintMore
attribute [local go_sem] max2_int min2_int max_two min_two max_three min_three max_four min_four   -- for this text's walks alone
set_option linter.unusedVariables false
set_option linter.unusedSimpArgs false

/-! ### casketlaw20_MerkleHolds: function 9 -/
def casketlaw20_MerkleHolds.j0 : Nat → List (List Int) → Int → Int → Bool → List (List Int) → Bool → Option (Bool)
  | 0, _, _, _, _, _, _ => none
  | k + 1, x0, x1, x2, x7, x8, x52 => if x52 = true then (some false) else (if x7 = true then ((merkle_Root.f x0).bind fun t598 => (if 0 ≤ x1 then (if x1 ≤ (wrap64 (x2 + 1)) then (if (wrap64 (x2 + 1)) ≤ (x0.length : Int) then ((merkle_Verify.f k t598 (x0.length : Int) x1 ((x0.take ((wrap64 (x2 + 1)) : Int).toNat).drop (x1 : Int).toNat) x8).bind fun t605 => (if t605 = true then ((casketlaw20_bits.f k (x0.length : Int)).bind fun t606 => (some (decide ((x8.length : Int) ≤ (wrap64 (2 * t606)))))) else (some false))) else (none)) else (none)) else (none))) else (some false))

def casketlaw20_MerkleHolds.f (k : Nat) (l0 : List (List Int)) (a1 : Int) (a2 : Int) : Option (Bool) := (casketlaw20_awake.f k).bind fun t592 => ((casketlaw20_few.f k l0 100).bind fun t593 => (if t593 = true then ((merkle_Prove.f l0 a1 a2).bind fun bt594 => (if bt594.2 = 0 then (if a1 < 0 then (casketlaw20_MerkleHolds.j0 k l0 a1 a2 t592 bt594.1 true) else (if a2 < a1 then (casketlaw20_MerkleHolds.j0 k l0 a1 a2 t592 bt594.1 true) else (casketlaw20_MerkleHolds.j0 k l0 a1 a2 t592 bt594.1 (decide (a2 ≥ (l0.length : Int)))))) else (if t592 = true then (if a1 < 0 then (some true) else (if a2 < a1 then (some true) else (some (decide (a2 ≥ (l0.length : Int)))))) else (some false)))) else (some t592)))

theorem casketlaw20_MerkleHolds.mono_l : ∀ k, (∀ y0 y1 y2 y3 y4 y5, LeO (casketlaw20_MerkleHolds.j0 k y0 y1 y2 y3 y4 y5) (casketlaw20_MerkleHolds.j0 (k + 1) y0 y1 y2 y3 y4 y5))
  | 0 => fun _ _ _ _ _ _ r h => by simp [casketlaw20_MerkleHolds.j0] at h
  | k + 1 => by
    have ih0 := casketlaw20_MerkleHolds.mono_l k
    · intro y0 y1 y2 y3 y4 y5
      unfold casketlaw20_MerkleHolds.j0
      repeat' first
      | (with_reducible exact ih0 _ _ _ _ _ _)
      | (with_reducible exact casketlaw20_awake.mono _)
      | (with_reducible exact casketlaw20_bits.mono _ _)
      | (with_reducible exact casketlaw20_few.mono _ _ _)
      | (with_reducible exact merkle_Verify.mono _ _ _ _ _ _)
      | (with_reducible exact LeO.refl _)
      | (with_reducible exact LeO.none _)
      | (with_reducible refine LeO.ite ?_ ?_)
      | (with_reducible refine LeO.bind ?_ (fun _ => ?_))
      | exact ih0 _ _ _ _ _ _
      | exact casketlaw20_awake.mono _
      | exact casketlaw20_bits.mono _ _
      | exact casketlaw20_few.mono _ _ _
      | exact merkle_Verify.mono _ _ _ _ _ _
      | exact LeO.none _
      | refine LeO.ite ?_ ?_
      | refine LeO.bind ?_ (fun _ => ?_)

theorem casketlaw20_MerkleHolds.mono : ∀ a0 a1 a2 k, LeO (casketlaw20_MerkleHolds.f k a0 a1 a2) (casketlaw20_MerkleHolds.f (k + 1) a0 a1 a2) := by
  intro a0 a1 a2 k
  have ih0 := casketlaw20_MerkleHolds.mono_l k
  unfold casketlaw20_MerkleHolds.f
  repeat' first
      | (with_reducible exact ih0 _ _ _ _ _ _)
      | (with_reducible exact casketlaw20_awake.mono _)
      | (with_reducible exact casketlaw20_bits.mono _ _)
      | (with_reducible exact casketlaw20_few.mono _ _ _)
      | (with_reducible exact merkle_Verify.mono _ _ _ _ _ _)
      | (with_reducible exact LeO.refl _)
      | (with_reducible exact LeO.none _)
      | (with_reducible refine LeO.ite ?_ ?_)
      | (with_reducible refine LeO.bind ?_ (fun _ => ?_))
      | exact ih0 _ _ _ _ _ _
      | exact casketlaw20_awake.mono _
      | exact casketlaw20_bits.mono _ _
      | exact casketlaw20_few.mono _ _ _
      | exact merkle_Verify.mono _ _ _ _ _ _
      | exact LeO.none _
      | refine LeO.ite ?_ ?_
      | refine LeO.bind ?_ (fun _ => ?_)

end Go.Proofs.YtgdogjnjbinoiaaDoor.Q
