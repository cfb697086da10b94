/- The pure functions (plain Lean over whole numbers and lists) of: casketlaw20_MerkleHalves. -/
import Derived.Test.YtgdogjnjbinoiaaDoorWWords
import Derived.Test.YtgdogjnjbinoiaaDoorWAll
import Derived.Test.YtgdogjnjbinoiaaDoorDmerk
import Derived.Test.YtgdogjnjbinoiaaDoorDmerkw
import Derived.Test.YtgdogjnjbinoiaaDoorDmroot
import Derived.Test.YtgdogjnjbinoiaaDoorDref13
import Derived.Test.YtgdogjnjbinoiaaDoorDref20
import Derived.Test.YtgdogjnjbinoiaaDoorC0
namespace Go.Proofs.YtgdogjnjbinoiaaDoor.Q
open Go.RowKit Go.Proofs.YtgdogjnjbinoiaaDoorW.PrintWords Go.Proofs.YtgdogjnjbinoiaaDoorW.PrintLast Go.Proofs.YtgdogjnjbinoiaaDoorW.PrintMore
attribute [local go_sem] max2_int min2_int max_two min_two max_three min_three max_four min_four   -- for this text's walks alone
set_option linter.unusedVariables false
set_option linter.unusedSimpArgs false

/-! ### casketlaw20_MerkleHalves: function 4 -/
def casketlaw20_MerkleHalves.j0 : Nat → List (List Int) → Bool → Bool → Option (Bool)
  | 0, _, _, _ => none
  | k + 1, x0, x3, x13 => if x13 = true then (some x3) else (if (x0.length : Int) = 1 then (if x3 = true then ((merkle_Root.f x0).bind fun t352 => (if 0 < (x0.length : Int) then ((casketlaw20_same.f k t352 (rd_L1 x0 0)).bind fun t356 => (some t356)) else (none))) else (some false)) else ((casketref20_Half.f k (x0.length : Int)).bind fun t357 => (if x3 = true then ((merkle_Root.f x0).bind fun t358 => (if 0 ≤ t357 then (if t357 ≤ (x0.length : Int) then ((merkle_Root.f (x0.take (t357 : Int).toNat)).bind fun t365 => ((merkle_Root.f (x0.drop (t357 : Int).toNat)).bind fun t372 => ((merkle_Node.f t365 t372).bind fun t375 => ((casketlaw20_same.f k t358 t375).bind fun t378 => (some t378))))) else (none)) else (none))) else (some false))))

def casketlaw20_MerkleHalves.f (k : Nat) (l0 : List (List Int)) : Option (Bool) := (casketlaw20_awake.f k).bind fun t350 => ((casketlaw20_few.f k l0 70).bind fun t351 => (if t351 = true then (casketlaw20_MerkleHalves.j0 k l0 t350 ((l0.length : Int) == 0)) else (casketlaw20_MerkleHalves.j0 k l0 t350 true)))

theorem casketlaw20_MerkleHalves.mono_l : ∀ k, (∀ y0 y1 y2, LeO (casketlaw20_MerkleHalves.j0 k y0 y1 y2) (casketlaw20_MerkleHalves.j0 (k + 1) y0 y1 y2))
  | 0 => fun _ _ _ r h => by simp [casketlaw20_MerkleHalves.j0] at h
  | k + 1 => by
    have ih0 := casketlaw20_MerkleHalves.mono_l k
    · intro y0 y1 y2
      unfold casketlaw20_MerkleHalves.j0
      repeat' first
      | (with_reducible exact ih0 _ _ _)
      | (with_reducible exact casketlaw20_awake.mono _)
      | (with_reducible exact casketlaw20_few.mono _ _ _)
      | (with_reducible exact casketlaw20_same.mono _ _ _)
      | (with_reducible exact casketref20_Half.mono _ _)
      | (with_reducible exact LeO.refl _)
      | (with_reducible exact LeO.none _)
      | (with_reducible refine LeO.ite ?_ ?_)
      | (with_reducible refine LeO.bind ?_ (fun _ => ?_))
      | exact ih0 _ _ _
      | exact casketlaw20_awake.mono _
      | exact casketlaw20_few.mono _ _ _
      | exact casketlaw20_same.mono _ _ _
      | exact casketref20_Half.mono _ _
      | exact LeO.none _
      | refine LeO.ite ?_ ?_
      | refine LeO.bind ?_ (fun _ => ?_)

theorem casketlaw20_MerkleHalves.mono : ∀ a0 k, LeO (casketlaw20_MerkleHalves.f k a0) (casketlaw20_MerkleHalves.f (k + 1) a0) := by
  intro a0 k
  have ih0 := casketlaw20_MerkleHalves.mono_l k
  unfold casketlaw20_MerkleHalves.f
  repeat' first
      | (with_reducible exact ih0 _ _ _)
      | (with_reducible exact casketlaw20_awake.mono _)
      | (with_reducible exact casketlaw20_few.mono _ _ _)
      | (with_reducible exact casketlaw20_same.mono _ _ _)
      | (with_reducible exact casketref20_Half.mono _ _)
      | (with_reducible exact LeO.refl _)
      | (with_reducible exact LeO.none _)
      | (with_reducible refine LeO.ite ?_ ?_)
      | (with_reducible refine LeO.bind ?_ (fun _ => ?_))
      | exact ih0 _ _ _
      | exact casketlaw20_awake.mono _
      | exact casketlaw20_few.mono _ _ _
      | exact casketlaw20_same.mono _ _ _
      | exact casketref20_Half.mono _ _
      | exact LeO.none _
      | refine LeO.ite ?_ ?_
      | refine LeO.bind ?_ (fun _ => ?_)

end Go.Proofs.YtgdogjnjbinoiaaDoor.Q
