/- The pure functions (plain Lean over whole numbers and lists) of: casketlaw14_HmacSame. -/
import Derived.Test.YtgdogjnjbinoiaaWWords
import Derived.Test.YtgdogjnjbinoiaaWAll
import Derived.Test.YtgdogjnjbinoiaaDhmac
namespace Go.Proofs.Ytgdogjnjbinoiaa.Q
open Go.RowKit Go.Proofs.YtgdogjnjbinoiaaW.PrintWords Go.Proofs.YtgdogjnjbinoiaaW.PrintLast Go.Proofs.YtgdogjnjbinoiaaW.PrintMore
attribute [local go_sem] max2_int min2_int max_two min_two max_three min_three max_four min_four   -- for this text's walks alone
set_option linter.unusedVariables false
set_option linter.unusedSimpArgs false

/-! ### casketlaw14_HmacSame: function 12 -/
mutual

def casketlaw14_HmacSame.j0 : Nat → List Int → List Int → Int → Int → Bool → Bool → Option (Bool)
  | 0, _, _, _, _, _, _ => none
  | k + 1, x0, x1, x2, x3, x9, x21 => if x21 = true then (some x9) else ((some (([] : List Int) : List Int)).bind fun y387 => (if y387.length + x0.length < 140737488355328 then ((some (y387 ++ x0 : List Int)).bind fun y390 => (if (y390.length : Int) > 0 then (if (y390.length : Int) = 0 then (none) else (if 0 ≤ (Int.tmod (Go.bits .and .i64 x2 65535) (y390.length : Int)) then (if (Int.tmod (Go.bits .and .i64 x2 65535) (y390.length : Int)) < (y390.length : Int) then (casketlaw14_HmacSame.j1 k x0 x1 x3 x9 (y390.set ((Int.tmod (Go.bits .and .i64 x2 65535) (y390.length : Int)) : Int).toNat (Go.bits .xor .u8 (rd y390 (Int.tmod (Go.bits .and .i64 x2 65535) (y390.length : Int))) x3)) (x3 != 0)) else (none)) else (none))) else (casketlaw14_HmacSame.j1 k x0 x1 x3 x9 y390 false))) else (none)))

def casketlaw14_HmacSame.j1 : Nat → List Int → List Int → Int → Bool → List Int → Bool → Option (Bool)
  | 0, _, _, _, _, _, _ => none
  | k + 1, x0, x1, x3, x9, x10, x11 => if x9 = true then ((hmac_Same.f k x0 x0).bind fun t395 => (if t395 = true then ((hmac_Same.f k x0 x1).bind fun t396 => ((hmac_Same.f k x1 x0).bind fun t397 => (if (t396 == t397) = true then ((hmac_Same.f k x0 x10).bind fun t398 => (if (t398 == (!x11)) = true then ((some (([] : List Int) : List Int)).bind fun y399 => (if y399.length + x0.length < 140737488355328 then ((some (y399 ++ x0 : List Int)).bind fun y402 => (if y402.length < 140737488355328 then ((hmac_Same.f k x0 (y402 ++ [x3])).bind fun t408 => (some (!t408))) else (none))) else (none))) else (some false))) else (some false)))) else (some false))) else (some false)
end

def casketlaw14_HmacSame.f (k : Nat) (l0 : List Int) (l1 : List Int) (a2 : Int) (a3 : Int) : Option (Bool) := (casketlaw14_awake.f k).bind fun t386 => (if (l0.length : Int) > 600 then (casketlaw14_HmacSame.j0 k l0 l1 a2 a3 t386 true) else (casketlaw14_HmacSame.j0 k l0 l1 a2 a3 t386 (decide ((l1.length : Int) > 600))))

theorem casketlaw14_HmacSame.mono_l : ∀ k, (∀ y0 y1 y2 y3 y4 y5, LeO (casketlaw14_HmacSame.j0 k y0 y1 y2 y3 y4 y5) (casketlaw14_HmacSame.j0 (k + 1) y0 y1 y2 y3 y4 y5)) ∧ (∀ y0 y1 y2 y3 y4 y5, LeO (casketlaw14_HmacSame.j1 k y0 y1 y2 y3 y4 y5) (casketlaw14_HmacSame.j1 (k + 1) y0 y1 y2 y3 y4 y5))
  | 0 => ⟨fun _ _ _ _ _ _ r h => by simp [casketlaw14_HmacSame.j0] at h, fun _ _ _ _ _ _ r h => by simp [casketlaw14_HmacSame.j1] at h⟩
  | k + 1 => by
    obtain ⟨ih0, ih1⟩ := casketlaw14_HmacSame.mono_l k
    refine ⟨?_, ?_⟩
    · intro y0 y1 y2 y3 y4 y5
      unfold casketlaw14_HmacSame.j0
      repeat' first
      | (with_reducible exact ih0 _ _ _ _ _ _)
      | (with_reducible exact ih1 _ _ _ _ _ _)
      | (with_reducible exact casketlaw14_awake.mono _)
      | (with_reducible exact hmac_Same.mono _ _ _)
      | (with_reducible exact LeO.refl _)
      | (with_reducible exact LeO.none _)
      | (with_reducible refine LeO.ite ?_ ?_)
      | (with_reducible refine LeO.bind ?_ (fun _ => ?_))
      | exact ih0 _ _ _ _ _ _
      | exact ih1 _ _ _ _ _ _
      | exact casketlaw14_awake.mono _
      | exact hmac_Same.mono _ _ _
      | exact LeO.none _
      | refine LeO.ite ?_ ?_
      | refine LeO.bind ?_ (fun _ => ?_)
    · intro y0 y1 y2 y3 y4 y5
      unfold casketlaw14_HmacSame.j1
      repeat' first
      | (with_reducible exact ih0 _ _ _ _ _ _)
      | (with_reducible exact ih1 _ _ _ _ _ _)
      | (with_reducible exact casketlaw14_awake.mono _)
      | (with_reducible exact hmac_Same.mono _ _ _)
      | (with_reducible exact LeO.refl _)
      | (with_reducible exact LeO.none _)
      | (with_reducible refine LeO.ite ?_ ?_)
      | (with_reducible refine LeO.bind ?_ (fun _ => ?_))
      | exact ih0 _ _ _ _ _ _
      | exact ih1 _ _ _ _ _ _
      | exact casketlaw14_awake.mono _
      | exact hmac_Same.mono _ _ _
      | exact LeO.none _
      | refine LeO.ite ?_ ?_
      | refine LeO.bind ?_ (fun _ => ?_)

theorem casketlaw14_HmacSame.mono : ∀ a0 a1 a2 a3 k, LeO (casketlaw14_HmacSame.f k a0 a1 a2 a3) (casketlaw14_HmacSame.f (k + 1) a0 a1 a2 a3) := by
  intro a0 a1 a2 a3 k
  obtain ⟨ih0, ih1⟩ := casketlaw14_HmacSame.mono_l k
  unfold casketlaw14_HmacSame.f
  repeat' first
      | (with_reducible exact ih0 _ _ _ _ _ _)
      | (with_reducible exact ih1 _ _ _ _ _ _)
      | (with_reducible exact casketlaw14_awake.mono _)
      | (with_reducible exact hmac_Same.mono _ _ _)
      | (with_reducible exact LeO.refl _)
      | (with_reducible exact LeO.none _)
      | (with_reducible refine LeO.ite ?_ ?_)
      | (with_reducible refine LeO.bind ?_ (fun _ => ?_))
      | exact ih0 _ _ _ _ _ _
      | exact ih1 _ _ _ _ _ _
      | exact casketlaw14_awake.mono _
      | exact hmac_Same.mono _ _ _
      | exact LeO.none _
      | refine LeO.ite ?_ ?_
      | refine LeO.bind ?_ (fun _ => ?_)

/-- THE ONE PURE STATEMENT of casketlaw14_HmacSame: yours. -/
def casketlaw14_HmacSame.Pure : Prop := ∀ (l0 : List Int) (l1 : List Int) (a2 : Int) (a3 : Int), l0.length ≤ maxLen → l0.length * 1 ≤ 140737488351232 → (∀ x ∈ l0, (Lit.int .u8 x).wf = true) → l1.length ≤ maxLen → l1.length * 1 ≤ 140737488351232 → (∀ x ∈ l1, (Lit.int .u8 x).wf = true) → (Lit.int .i64 a2).wf = true → (Lit.int .u8 a3).wf = true → ∃ k, casketlaw14_HmacSame.f k l0 l1 a2 a3 = some true

end Go.Proofs.Ytgdogjnjbinoiaa.Q
