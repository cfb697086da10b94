/- The pure functions (plain Lean over whole numbers and lists) of: casketlaw20_MerkleRebuilds. -/
import Derived.Test.YtgdogjnjbinoiaaDoorWWordsX
import Derived.Test.YtgdogjnjbinoiaaDoorDmerkw
import Derived.Test.YtgdogjnjbinoiaaDoorDmrebX
import Derived.Test.YtgdogjnjbinoiaaDoorDref13
import Derived.Test.YtgdogjnjbinoiaaDoorDref20
namespace Go.Proofs.YtgdogjnjbinoiaaDoor.Q
open Go.RowKit Go.Proofs.YtgdogjnjbinoiaaDoorW.PrintWords Go.Proofs.YtgdogjnjbinoiaaDoorW.PrintLast Go.Proofs.YtgdogjnjbinoiaaDoorW.PrintMore
attribute [local go_sem] max2_int min2_int max_two min_two max_three min_three max_four min_four   -- for this text's walks alone
set_option linter.unusedVariables false
set_option linter.unusedSimpArgs false

/-! ### casketlaw20_MerkleRebuilds: function 8 -/
def casketlaw20_MerkleRebuilds.j0 : Nat → List Int → Int → Int → List (List Int) → List (List Int) → Bool → Bool → Option (Bool)
  | 0, _, _, _, _, _, _, _ => none
  | k + 1, x0, x1, x2, x3, x4, x11, x29 => if x29 = true then (some x11) else ((merkle_Rebuild.f x1 x2 x3 x4).bind fun bt581 => ((casketref20_Rebuild.f k x1 x2 x3 x4).bind fun bt585 => (if x11 = true then (if bt581.2 = bt585.2 then ((casketlaw20_same.f k bt581.1 bt585.1).bind fun t589 => (if t589 = true then ((merkle_Verify.f k x0 x1 x2 x3 x4).bind fun t590 => ((casketref20_Verify.f k x0 x1 x2 x3 x4).bind fun t591 => (some (t590 == t591)))) else (some false))) else (some false)) else (some false))))

def casketlaw20_MerkleRebuilds.f (k : Nat) (l0 : List Int) (a1 : Int) (a2 : Int) (l3 : List (List Int)) (l4 : List (List Int)) : Option (Bool) := (casketlaw20_awake.f k).bind fun t578 => ((casketlaw20_few.f k l3 70).bind fun t579 => (if t579 = true then ((casketlaw20_few.f k l4 100).bind fun t580 => (if t580 = true then (casketlaw20_MerkleRebuilds.j0 k l0 a1 a2 l3 l4 t578 (decide ((l0.length : Int) > 300))) else (casketlaw20_MerkleRebuilds.j0 k l0 a1 a2 l3 l4 t578 true))) else (casketlaw20_MerkleRebuilds.j0 k l0 a1 a2 l3 l4 t578 true)))

theorem casketlaw20_MerkleRebuilds.mono_l : ∀ k, (∀ y0 y1 y2 y3 y4 y5 y6, LeO (casketlaw20_MerkleRebuilds.j0 k y0 y1 y2 y3 y4 y5 y6) (casketlaw20_MerkleRebuilds.j0 (k + 1) y0 y1 y2 y3 y4 y5 y6))
  | 0 => fun _ _ _ _ _ _ _ r h => by simp [casketlaw20_MerkleRebuilds.j0] at h
  | k + 1 => by
    have ih0 := casketlaw20_MerkleRebuilds.mono_l k
    · intro y0 y1 y2 y3 y4 y5 y6
      unfold casketlaw20_MerkleRebuilds.j0
      repeat' first
      | (with_reducible exact ih0 _ _ _ _ _ _ _)
      | (with_reducible exact casketlaw20_awake.mono _)
      | (with_reducible exact casketlaw20_few.mono _ _ _)
      | (with_reducible exact casketlaw20_same.mono _ _ _)
      | (with_reducible exact casketref20_Rebuild.mono _ _ _ _ _)
      | (with_reducible exact casketref20_Verify.mono _ _ _ _ _ _)
      | (with_reducible exact merkle_Verify.mono _ _ _ _ _ _)
      | (with_reducible exact LeO.refl _)
      | (with_reducible exact LeO.none _)
      | (with_reducible refine LeO.ite ?_ ?_)
      | (with_reducible refine LeO.bind ?_ (fun _ => ?_))
      | exact ih0 _ _ _ _ _ _ _
      | exact casketlaw20_awake.mono _
      | exact casketlaw20_few.mono _ _ _
      | exact casketlaw20_same.mono _ _ _
      | exact casketref20_Rebuild.mono _ _ _ _ _
      | exact casketref20_Verify.mono _ _ _ _ _ _
      | exact merkle_Verify.mono _ _ _ _ _ _
      | exact LeO.none _
      | refine LeO.ite ?_ ?_
      | refine LeO.bind ?_ (fun _ => ?_)

theorem casketlaw20_MerkleRebuilds.mono : ∀ a0 a1 a2 a3 a4 k, LeO (casketlaw20_MerkleRebuilds.f k a0 a1 a2 a3 a4) (casketlaw20_MerkleRebuilds.f (k + 1) a0 a1 a2 a3 a4) := by
  intro a0 a1 a2 a3 a4 k
  have ih0 := casketlaw20_MerkleRebuilds.mono_l k
  unfold casketlaw20_MerkleRebuilds.f
  repeat' first
      | (with_reducible exact ih0 _ _ _ _ _ _ _)
      | (with_reducible exact casketlaw20_awake.mono _)
      | (with_reducible exact casketlaw20_few.mono _ _ _)
      | (with_reducible exact casketlaw20_same.mono _ _ _)
      | (with_reducible exact casketref20_Rebuild.mono _ _ _ _ _)
      | (with_reducible exact casketref20_Verify.mono _ _ _ _ _ _)
      | (with_reducible exact merkle_Verify.mono _ _ _ _ _ _)
      | (with_reducible exact LeO.refl _)
      | (with_reducible exact LeO.none _)
      | (with_reducible refine LeO.ite ?_ ?_)
      | (with_reducible refine LeO.bind ?_ (fun _ => ?_))
      | exact ih0 _ _ _ _ _ _ _
      | exact casketlaw20_awake.mono _
      | exact casketlaw20_few.mono _ _ _
      | exact casketlaw20_same.mono _ _ _
      | exact casketref20_Rebuild.mono _ _ _ _ _
      | exact casketref20_Verify.mono _ _ _ _ _ _
      | exact merkle_Verify.mono _ _ _ _ _ _
      | exact LeO.none _
      | refine LeO.ite ?_ ?_
      | refine LeO.bind ?_ (fun _ => ?_)

end Go.Proofs.YtgdogjnjbinoiaaDoor.Q
