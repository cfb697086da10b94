/- The pure functions (plain Lean over whole numbers and lists) of: hmac_Expand, hmac_MAC, hmac_Same, hmac_Check. -/
import Derived.Test.YtkennblgbfhjiaaGreatDoorWWords
import Derived.Test.YtkennblgbfhjiaaGreatDoorWAll
import Derived.Test.YtkennblgbfhjiaaGreatDoorPhmac
namespace Go.Proofs.YtkennblgbfhjiaaGreatDoor.Q
open Go.RowKit Go.Proofs.YtkennblgbfhjiaaGreatDoorW.PrintWords Go.Proofs.YtkennblgbfhjiaaGreatDoorW.PrintLast Go.Proofs.YtkennblgbfhjiaaGreatDoorW.PrintMore
attribute [local go_sem] max2_int min2_int max_two min_two max_three min_three max_four min_four   -- for this text's walks alone
set_option linter.unusedVariables false
set_option linter.unusedSimpArgs false

/-! ### hmac_Expand: function 43 -/
/-- So many bytes made of a key. -/
def hmac_Expand.f (l0 l1 : List Int) (a2 : Int) : Option (List Int × Int) := if a2 < 0 ∨ 8160 < a2 then some ([], 1) else if l0.length ≤ 549755813888 ∧ l1.length ≤ 100000000000 then some ((expN l0 l1 255).take a2.toNat, 0) else none

/-! ### hmac_MAC: function 89 -/
/-- The tag of bytes by a key. -/
def hmac_MAC.f (l0 : List Int) (l1 : List Int) : Option (List Int) := if l0.length ≤ 549755813888 ∧ l1.length ≤ 274877906944 then some (macW l0 [l1]) else none

/-! ### hmac_Same: function 42 -/
def hmac_Same.l0 : Nat → List Int → List Int → Int → Int → Int → Option (Bool)
  | 0, _, _, _, _, _ => none
  | k + 1, x0, x1, x5, x13, x14 => if x14 < x13 then (if 0 ≤ x14 then (if x14 < (x0.length : Int) then (if x14 < (x1.length : Int) then (hmac_Same.l0 k x0 x1 (Go.bits .or .u8 x5 (Go.bits .xor .u8 (rd x0 x14) (rd x1 x14))) x13 (wrap64 (x14 + 1))) else (none)) else (none)) else (none)) else (some (x5 == 0))

def hmac_Same.f (k : Nat) (l0 : List Int) (l1 : List Int) : Option (Bool) := if (l0.length : Int) = (l1.length : Int) then (hmac_Same.l0 k l0 l1 0 (l0.length : Int) 0) else (some false)

theorem hmac_Same.mono_l : ∀ k, (∀ y0 y1 y2 y3 y4, LeO (hmac_Same.l0 k y0 y1 y2 y3 y4) (hmac_Same.l0 (k + 1) y0 y1 y2 y3 y4))
  | 0 => fun _ _ _ _ _ r h => by simp [hmac_Same.l0] at h
  | k + 1 => by
    have ih0 := hmac_Same.mono_l k
    · intro y0 y1 y2 y3 y4
      unfold hmac_Same.l0
      repeat' first
      | (with_reducible exact ih0 _ _ _ _ _)
      | (with_reducible exact LeO.refl _)
      | (with_reducible exact LeO.none _)
      | (with_reducible refine LeO.ite ?_ ?_)
      | (with_reducible refine LeO.bind ?_ (fun _ => ?_))
      | exact ih0 _ _ _ _ _
      | exact LeO.none _
      | refine LeO.ite ?_ ?_
      | refine LeO.bind ?_ (fun _ => ?_)

theorem hmac_Same.mono : ∀ a0 a1 k, LeO (hmac_Same.f k a0 a1) (hmac_Same.f (k + 1) a0 a1) := by
  intro a0 a1 k
  have ih0 := hmac_Same.mono_l k
  unfold hmac_Same.f
  repeat' first
      | (with_reducible exact ih0 _ _ _ _ _)
      | (with_reducible exact LeO.refl _)
      | (with_reducible exact LeO.none _)
      | (with_reducible refine LeO.ite ?_ ?_)
      | (with_reducible refine LeO.bind ?_ (fun _ => ?_))
      | exact ih0 _ _ _ _ _
      | exact LeO.none _
      | refine LeO.ite ?_ ?_
      | refine LeO.bind ?_ (fun _ => ?_)

/-! ### hmac_Check: function 93 -/
def hmac_Check.f (k : Nat) (l0 : List Int) (l1 : List Int) (l2 : List Int) : Option (Bool) := (hmac_MAC.f l0 l1).bind fun t428 => ((hmac_Same.f k t428 l2).bind fun t431 => (some t431))

theorem hmac_Check.mono : ∀ a0 a1 a2 k, LeO (hmac_Check.f k a0 a1 a2) (hmac_Check.f (k + 1) a0 a1 a2) := by
  intro a0 a1 a2 k
  unfold hmac_Check.f
  repeat' first
      | (with_reducible exact hmac_Same.mono _ _ _)
      | (with_reducible exact LeO.refl _)
      | (with_reducible exact LeO.none _)
      | (with_reducible refine LeO.ite ?_ ?_)
      | (with_reducible refine LeO.bind ?_ (fun _ => ?_))
      | exact hmac_Same.mono _ _ _
      | exact LeO.none _
      | refine LeO.ite ?_ ?_
      | refine LeO.bind ?_ (fun _ => ?_)

end Go.Proofs.YtkennblgbfhjiaaGreatDoor.Q
