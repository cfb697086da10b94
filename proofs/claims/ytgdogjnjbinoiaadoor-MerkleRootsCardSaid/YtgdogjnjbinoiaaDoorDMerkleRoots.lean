/- The pure functions (plain Lean over whole numbers and lists) of: casketlaw20_MerkleRoots. -/
import Derived.Test.YtgdogjnjbinoiaaDoorWWords
import Derived.Test.YtgdogjnjbinoiaaDoorWAll
import Derived.Test.YtgdogjnjbinoiaaDoorDmerk
import Derived.Test.YtgdogjnjbinoiaaDoorDmerkw
import Derived.Test.YtgdogjnjbinoiaaDoorDmroot
import Derived.Test.YtgdogjnjbinoiaaDoorDref13
import Derived.Test.YtgdogjnjbinoiaaDoorDref20
namespace Go.Proofs.YtgdogjnjbinoiaaDoor.Q
open Go.RowKit Go.Proofs.YtgdogjnjbinoiaaDoorW.PrintWords Go.Proofs.YtgdogjnjbinoiaaDoorW.PrintLast Go.Proofs.YtgdogjnjbinoiaaDoorW.PrintMore
attribute [local go_sem] max2_int min2_int max_two min_two max_three min_three max_four min_four   -- for this text's walks alone
set_option linter.unusedVariables false
set_option linter.unusedSimpArgs false

/-! ### casketlaw20_MerkleRoots: function 5 -/
def casketlaw20_MerkleRoots.j0 : Nat → List Int → List Int → List (List Int) → Bool → Bool → Option (Bool)
  | 0, _, _, _, _, _ => none
  | k + 1, x0, x1, x2, x7, x21 => if x21 = true then (some x7) else (if x7 = true then ((merkle_Leaf.f x0).bind fun t396 => ((casketref20_Leaf.f k x0).bind fun t399 => ((casketlaw20_same.f k t396 t399).bind fun t402 => (if t402 = true then ((merkle_Node.f x0 x1).bind fun t403 => ((casketref20_Node.f k x0 x1).bind fun t406 => ((casketlaw20_same.f k t403 t406).bind fun t409 => (if t409 = true then ((merkle_Root.f x2).bind fun t410 => ((casketref20_Root.f k x2).bind fun t413 => ((casketlaw20_same.f k t410 t413).bind fun t416 => (some t416)))) else (some false))))) else (some false))))) else (some false))

def casketlaw20_MerkleRoots.f (k : Nat) (l0 : List Int) (l1 : List Int) (l2 : List (List Int)) : Option (Bool) := (casketlaw20_awake.f k).bind fun t394 => (if (l0.length : Int) > 300 then (casketlaw20_MerkleRoots.j0 k l0 l1 l2 t394 true) else (if (l1.length : Int) > 300 then (casketlaw20_MerkleRoots.j0 k l0 l1 l2 t394 true) else ((casketlaw20_few.f k l2 70).bind fun t395 => (casketlaw20_MerkleRoots.j0 k l0 l1 l2 t394 (!t395)))))

theorem casketlaw20_MerkleRoots.mono_l : ∀ k, (∀ y0 y1 y2 y3 y4, LeO (casketlaw20_MerkleRoots.j0 k y0 y1 y2 y3 y4) (casketlaw20_MerkleRoots.j0 (k + 1) y0 y1 y2 y3 y4))
  | 0 => fun _ _ _ _ _ r h => by simp [casketlaw20_MerkleRoots.j0] at h
  | k + 1 => by
    have ih0 := casketlaw20_MerkleRoots.mono_l k
    · intro y0 y1 y2 y3 y4
      unfold casketlaw20_MerkleRoots.j0
      repeat' first
      | (with_reducible exact ih0 _ _ _ _ _)
      | (with_reducible exact casketlaw20_awake.mono _)
      | (with_reducible exact casketlaw20_few.mono _ _ _)
      | (with_reducible exact casketlaw20_same.mono _ _ _)
      | (with_reducible exact casketref20_Leaf.mono _ _)
      | (with_reducible exact casketref20_Node.mono _ _ _)
      | (with_reducible exact casketref20_Root.mono _ _)
      | (with_reducible exact LeO.refl _)
      | (with_reducible exact LeO.none _)
      | (with_reducible refine LeO.ite ?_ ?_)
      | (with_reducible refine LeO.bind ?_ (fun _ => ?_))
      | exact ih0 _ _ _ _ _
      | exact casketlaw20_awake.mono _
      | exact casketlaw20_few.mono _ _ _
      | exact casketlaw20_same.mono _ _ _
      | exact casketref20_Leaf.mono _ _
      | exact casketref20_Node.mono _ _ _
      | exact casketref20_Root.mono _ _
      | exact LeO.none _
      | refine LeO.ite ?_ ?_
      | refine LeO.bind ?_ (fun _ => ?_)

theorem casketlaw20_MerkleRoots.mono : ∀ a0 a1 a2 k, LeO (casketlaw20_MerkleRoots.f k a0 a1 a2) (casketlaw20_MerkleRoots.f (k + 1) a0 a1 a2) := by
  intro a0 a1 a2 k
  have ih0 := casketlaw20_MerkleRoots.mono_l k
  unfold casketlaw20_MerkleRoots.f
  repeat' first
      | (with_reducible exact ih0 _ _ _ _ _)
      | (with_reducible exact casketlaw20_awake.mono _)
      | (with_reducible exact casketlaw20_few.mono _ _ _)
      | (with_reducible exact casketlaw20_same.mono _ _ _)
      | (with_reducible exact casketref20_Leaf.mono _ _)
      | (with_reducible exact casketref20_Node.mono _ _ _)
      | (with_reducible exact casketref20_Root.mono _ _)
      | (with_reducible exact LeO.refl _)
      | (with_reducible exact LeO.none _)
      | (with_reducible refine LeO.ite ?_ ?_)
      | (with_reducible refine LeO.bind ?_ (fun _ => ?_))
      | exact ih0 _ _ _ _ _
      | exact casketlaw20_awake.mono _
      | exact casketlaw20_few.mono _ _ _
      | exact casketlaw20_same.mono _ _ _
      | exact casketref20_Leaf.mono _ _
      | exact casketref20_Node.mono _ _ _
      | exact casketref20_Root.mono _ _
      | exact LeO.none _
      | refine LeO.ite ?_ ?_
      | refine LeO.bind ?_ (fun _ => ?_)

end Go.Proofs.YtgdogjnjbinoiaaDoor.Q
