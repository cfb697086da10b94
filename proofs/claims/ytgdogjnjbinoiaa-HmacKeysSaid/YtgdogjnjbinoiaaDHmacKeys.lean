/- The pure functions (plain Lean over whole numbers and lists) of: casketlaw14_HmacKeys. -/
import Derived.Test.YtgdogjnjbinoiaaWWords
import Derived.Test.YtgdogjnjbinoiaaWAll
import Derived.Test.YtgdogjnjbinoiaaDhmac
import Derived.Test.YtgdogjnjbinoiaaDref13
import Derived.Test.YtgdogjnjbinoiaaDsha
namespace Go.Proofs.Ytgdogjnjbinoiaa.Q
open Go.RowKit Go.Proofs.YtgdogjnjbinoiaaW.PrintWords Go.Proofs.YtgdogjnjbinoiaaW.PrintLast Go.Proofs.YtgdogjnjbinoiaaW.PrintMore
attribute [local go_sem] max2_int min2_int max_two min_two max_three min_three max_four min_four   -- for this text's walks alone
set_option linter.unusedVariables false
set_option linter.unusedSimpArgs false

/-! ### casketlaw14_HmacKeys: function 11 -/
def casketlaw14_HmacKeys.j0 : Nat → List Int → List Int → Int → Bool → Bool → Option (Bool)
  | 0, _, _, _, _, _ => none
  | k + 1, x0, x1, x2, x7, x18 => if x18 = true then (some x7) else ((hmac_MAC.f x0 x1).bind fun t363 => (if (x0.length : Int) > 64 then (if x7 = true then ((sha_Sum.f x0).bind fun t366 => ((hmac_MAC.f t366 x1).bind fun t369 => ((casketlaw14_same.f k t363 t369).bind fun t372 => (some t372)))) else (some false)) else (if x7 = true then ((some (([] : List Int) : List Int)).bind fun y373 => (if y373.length + x0.length < 140737488355328 then ((some (y373 ++ x0 : List Int)).bind fun y376 => (if 0 ≤ (mn (Go.bits .and .i64 x2 63) (wrap64 (64 - (x0.length : Int)))) then (if y376.length + (mn (Go.bits .and .i64 x2 63) (wrap64 (64 - (x0.length : Int))) : Int).toNat < 140737488355328 then ((hmac_MAC.f (y376 ++ List.replicate (mn (Go.bits .and .i64 x2 63) (wrap64 (64 - (x0.length : Int))) : Int).toNat 0) x1).bind fun t382 => ((casketlaw14_same.f k t363 t382).bind fun t385 => (some t385))) else (none)) else (none))) else (none))) else (some false))))

def casketlaw14_HmacKeys.f (k : Nat) (l0 : List Int) (l1 : List Int) (a2 : Int) : Option (Bool) := (casketlaw14_awake.f k).bind fun t362 => (if (l0.length : Int) > 300 then (casketlaw14_HmacKeys.j0 k l0 l1 a2 t362 true) else (casketlaw14_HmacKeys.j0 k l0 l1 a2 t362 (decide ((l1.length : Int) > 1000))))

theorem casketlaw14_HmacKeys.mono_l : ∀ k, (∀ y0 y1 y2 y3 y4, LeO (casketlaw14_HmacKeys.j0 k y0 y1 y2 y3 y4) (casketlaw14_HmacKeys.j0 (k + 1) y0 y1 y2 y3 y4))
  | 0 => fun _ _ _ _ _ r h => by simp [casketlaw14_HmacKeys.j0] at h
  | k + 1 => by
    have ih0 := casketlaw14_HmacKeys.mono_l k
    · intro y0 y1 y2 y3 y4
      unfold casketlaw14_HmacKeys.j0
      repeat' first
      | (with_reducible exact ih0 _ _ _ _ _)
      | (with_reducible exact casketlaw14_awake.mono _)
      | (with_reducible exact casketlaw14_same.mono _ _ _)
      | (with_reducible exact LeO.refl _)
      | (with_reducible exact LeO.none _)
      | (with_reducible refine LeO.ite ?_ ?_)
      | (with_reducible refine LeO.bind ?_ (fun _ => ?_))
      | exact ih0 _ _ _ _ _
      | exact casketlaw14_awake.mono _
      | exact casketlaw14_same.mono _ _ _
      | exact LeO.none _
      | refine LeO.ite ?_ ?_
      | refine LeO.bind ?_ (fun _ => ?_)

theorem casketlaw14_HmacKeys.mono : ∀ a0 a1 a2 k, LeO (casketlaw14_HmacKeys.f k a0 a1 a2) (casketlaw14_HmacKeys.f (k + 1) a0 a1 a2) := by
  intro a0 a1 a2 k
  have ih0 := casketlaw14_HmacKeys.mono_l k
  unfold casketlaw14_HmacKeys.f
  repeat' first
      | (with_reducible exact ih0 _ _ _ _ _)
      | (with_reducible exact casketlaw14_awake.mono _)
      | (with_reducible exact casketlaw14_same.mono _ _ _)
      | (with_reducible exact LeO.refl _)
      | (with_reducible exact LeO.none _)
      | (with_reducible refine LeO.ite ?_ ?_)
      | (with_reducible refine LeO.bind ?_ (fun _ => ?_))
      | exact ih0 _ _ _ _ _
      | exact casketlaw14_awake.mono _
      | exact casketlaw14_same.mono _ _ _
      | exact LeO.none _
      | refine LeO.ite ?_ ?_
      | refine LeO.bind ?_ (fun _ => ?_)

/-- THE ONE PURE STATEMENT of casketlaw14_HmacKeys: yours. -/
def casketlaw14_HmacKeys.Pure : Prop := ∀ (l0 : List Int) (l1 : List Int) (a2 : Int), l0.length ≤ maxLen → l0.length * 1 ≤ 140737488351232 → (∀ x ∈ l0, (Lit.int .u8 x).wf = true) → l1.length ≤ maxLen → l1.length * 1 ≤ 140737488351232 → (∀ x ∈ l1, (Lit.int .u8 x).wf = true) → (Lit.int .i64 a2).wf = true → ∃ k, casketlaw14_HmacKeys.f k l0 l1 a2 = some true

end Go.Proofs.Ytgdogjnjbinoiaa.Q
