/- The pure functions (plain Lean over whole numbers and lists) of: merkle_Rebuild.
   The pure functions (plain Lean over whole numbers and lists) of: hmac_Same, merkle_Verify. -/
import Derived.Test.YtgdogjnjbinoiaaDoorWWordsX
import Derived.Test.YtgdogjnjbinoiaaDoorHreb2
/-! ### Dmreb -/
section
namespace Go.Proofs.YtgdogjnjbinoiaaDoor.Q
open Go.RowKit Go.Proofs.YtgdogjnjbinoiaaDoorW.PrintWords Go.Proofs.YtgdogjnjbinoiaaDoorW.PrintLast Go.Proofs.YtgdogjnjbinoiaaDoorW.PrintMore
attribute [local go_sem] max2_int min2_int max_two min_two max_three min_three max_four min_four   -- for this text's walks alone
set_option linter.unusedVariables false
set_option linter.unusedSimpArgs false

/-! ### merkle_Rebuild: function 23 -/
def merkle_Rebuild.f (a0 a1 : Int) (l2 l3 : List (List Int)) : Option (List Int × Int) := if (l2.length ≤ 1000 ∧ ∀ x ∈ l2, x.length ≤ 1000000) ∧ (l3.length ≤ 1000000 ∧ ∀ x ∈ l3, x.length ≤ 1000000) then some (rebuildW a0 a1 l2 l3) else none

end Go.Proofs.YtgdogjnjbinoiaaDoor.Q
end
/-! ### Dmver -/
section
namespace Go.Proofs.YtgdogjnjbinoiaaDoor.Q
open Go.RowKit Go.Proofs.YtgdogjnjbinoiaaDoorW.PrintWords Go.Proofs.YtgdogjnjbinoiaaDoorW.PrintLast Go.Proofs.YtgdogjnjbinoiaaDoorW.PrintMore
attribute [local go_sem] max2_int min2_int max_two min_two max_three min_three max_four min_four   -- for this text's walks alone
set_option linter.unusedVariables false
set_option linter.unusedSimpArgs false

/-! ### hmac_Same: function 45 -/
def hmac_Same.l0 : Nat → List Int → List Int → Int → Int → Int → Option (Bool)
  | 0, _, _, _, _, _ => none
  | k + 1, x0, x1, x5, x13, x14 => if x14 < x13 then (if 0 ≤ x14 then (if x14 < (x0.length : Int) then (if x14 < (x1.length : Int) then (hmac_Same.l0 k x0 x1 (Go.bits .or .u8 x5 (Go.bits .xor .u8 (rd x0 x14) (rd x1 x14))) x13 (wrap64 (x14 + 1))) else (none)) else (none)) else (none)) else (some (x5 == 0))

def hmac_Same.f (k : Nat) (l0 : List Int) (l1 : List Int) : Option (Bool) := if (l0.length : Int) = (l1.length : Int) then (hmac_Same.l0 k l0 l1 0 (l0.length : Int) 0) else (some false)

theorem hmac_Same.mono_l : ∀ k, (∀ y0 y1 y2 y3 y4, LeO (hmac_Same.l0 k y0 y1 y2 y3 y4) (hmac_Same.l0 (k + 1) y0 y1 y2 y3 y4))
  | 0 => fun _ _ _ _ _ r h => by simp [hmac_Same.l0] at h
  | k + 1 => by
    have ih0 := hmac_Same.mono_l k
    · intro y0 y1 y2 y3 y4
      unfold hmac_Same.l0
      repeat' first
      | (with_reducible exact ih0 _ _ _ _ _)
      | (with_reducible exact LeO.refl _)
      | (with_reducible exact LeO.none _)
      | (with_reducible refine LeO.ite ?_ ?_)
      | (with_reducible refine LeO.bind ?_ (fun _ => ?_))
      | exact ih0 _ _ _ _ _
      | exact LeO.none _
      | refine LeO.ite ?_ ?_
      | refine LeO.bind ?_ (fun _ => ?_)

theorem hmac_Same.mono : ∀ a0 a1 k, LeO (hmac_Same.f k a0 a1) (hmac_Same.f (k + 1) a0 a1) := by
  intro a0 a1 k
  have ih0 := hmac_Same.mono_l k
  unfold hmac_Same.f
  repeat' first
      | (with_reducible exact ih0 _ _ _ _ _)
      | (with_reducible exact LeO.refl _)
      | (with_reducible exact LeO.none _)
      | (with_reducible refine LeO.ite ?_ ?_)
      | (with_reducible refine LeO.bind ?_ (fun _ => ?_))
      | exact ih0 _ _ _ _ _
      | exact LeO.none _
      | refine LeO.ite ?_ ?_
      | refine LeO.bind ?_ (fun _ => ?_)

/-! ### merkle_Verify: function 28 -/
def merkle_Verify.f (k : Nat) (l0 : List Int) (a1 : Int) (a2 : Int) (l3 : List (List Int)) (l4 : List (List Int)) : Option (Bool) := (merkle_Rebuild.f a1 a2 l3 l4).bind fun bt568 => (if bt568.2 = 0 then ((hmac_Same.f k bt568.1 l0).bind fun t572 => (some t572)) else (some false))

theorem merkle_Verify.mono : ∀ a0 a1 a2 a3 a4 k, LeO (merkle_Verify.f k a0 a1 a2 a3 a4) (merkle_Verify.f (k + 1) a0 a1 a2 a3 a4) := by
  intro a0 a1 a2 a3 a4 k
  unfold merkle_Verify.f
  repeat' first
      | (with_reducible exact hmac_Same.mono _ _ _)
      | (with_reducible exact LeO.refl _)
      | (with_reducible exact LeO.none _)
      | (with_reducible refine LeO.ite ?_ ?_)
      | (with_reducible refine LeO.bind ?_ (fun _ => ?_))
      | exact hmac_Same.mono _ _ _
      | exact LeO.none _
      | refine LeO.ite ?_ ?_
      | refine LeO.bind ?_ (fun _ => ?_)

end Go.Proofs.YtgdogjnjbinoiaaDoor.Q
end
