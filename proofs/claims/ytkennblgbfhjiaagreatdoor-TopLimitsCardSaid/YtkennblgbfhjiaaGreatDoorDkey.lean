/- The pure functions (plain Lean over whole numbers and lists) of: caskettop_key, archive_right, archive_trusts. -/
import Derived.Test.YtkennblgbfhjiaaGreatDoorWWords
import Derived.Test.YtkennblgbfhjiaaGreatDoorWAll
namespace Go.Proofs.YtkennblgbfhjiaaGreatDoor.Q
open Go.RowKit Go.Proofs.YtkennblgbfhjiaaGreatDoorW.PrintWords Go.Proofs.YtkennblgbfhjiaaGreatDoorW.PrintLast Go.Proofs.YtkennblgbfhjiaaGreatDoorW.PrintMore
attribute [local go_sem] max2_int min2_int max_two min_two max_three min_three max_four min_four   -- for this text's walks alone
set_option linter.unusedVariables false
set_option linter.unusedSimpArgs false

/-! ### caskettop_key: function 7 -/
def caskettop_key.l0 : Nat → Int → List Int → Int → Option (List Int)
  | 0, _, _, _ => none
  | k + 1, x0, x3, x4 => if x4 < 8 then (if 0 ≤ (IntKind.u64.wrap (wrap64 (8 * x4))) then (if 0 ≤ x4 then (if x4 < (x3.length : Int) then (caskettop_key.l0 k x0 (x3.set (x4 : Int).toNat ((shr .u64 (IntKind.u64.wrap (x0)) (IntKind.u64.wrap (wrap64 (8 * x4)))) % 256)) (wrap64 (x4 + 1))) else (none)) else (none)) else (none)) else (some x3)

def caskettop_key.f (k : Nat) (a0 : Int) : Option (List Int) := if 32 ≤ 281474976710656 then (caskettop_key.l0 k a0 (List.replicate 32 0) 0) else (none)

theorem caskettop_key.mono_l : ∀ k, (∀ y0 y1 y2, LeO (caskettop_key.l0 k y0 y1 y2) (caskettop_key.l0 (k + 1) y0 y1 y2))
  | 0 => fun _ _ _ r h => by simp [caskettop_key.l0] at h
  | k + 1 => by
    have ih0 := caskettop_key.mono_l k
    · intro y0 y1 y2
      unfold caskettop_key.l0
      repeat' first
      | (with_reducible exact ih0 _ _ _)
      | (with_reducible exact LeO.refl _)
      | (with_reducible exact LeO.none _)
      | (with_reducible refine LeO.ite ?_ ?_)
      | (with_reducible refine LeO.bind ?_ (fun _ => ?_))
      | exact ih0 _ _ _
      | exact LeO.none _
      | refine LeO.ite ?_ ?_
      | refine LeO.bind ?_ (fun _ => ?_)

theorem caskettop_key.mono : ∀ a0 k, LeO (caskettop_key.f k a0) (caskettop_key.f (k + 1) a0) := by
  intro a0 k
  have ih0 := caskettop_key.mono_l k
  unfold caskettop_key.f
  repeat' first
      | (with_reducible exact ih0 _ _ _)
      | (with_reducible exact LeO.refl _)
      | (with_reducible exact LeO.none _)
      | (with_reducible refine LeO.ite ?_ ?_)
      | (with_reducible refine LeO.bind ?_ (fun _ => ?_))
      | exact ih0 _ _ _
      | exact LeO.none _
      | refine LeO.ite ?_ ?_
      | refine LeO.bind ?_ (fun _ => ?_)

/-! ### archive_right: function 31 -/
def archive_right.f (a0_0 : Int) (l0_1 : List Int) : Option (Bool) := if (l0_1.length : Int) = 0 then (some true) else (some ((l0_1.length : Int) == 32))

/-! ### archive_trusts: function 32 -/
def archive_trusts.f (a0_0 : Int) (l0_1 : List Int) : Option (Bool) := some (decide ((l0_1.length : Int) > 0))

end Go.Proofs.YtkennblgbfhjiaaGreatDoor.Q
