/- The pure functions (plain Lean over whole numbers and lists) of: casketlaw14_HmacBits. -/
import Derived.Test.YtgdogjnjbinoiaaWWords
import Derived.Test.YtgdogjnjbinoiaaWAll
import Derived.Test.YtgdogjnjbinoiaaDhmac
namespace Go.Proofs.Ytgdogjnjbinoiaa.Q
open Go.RowKit Go.Proofs.YtgdogjnjbinoiaaW.PrintWords Go.Proofs.YtgdogjnjbinoiaaW.PrintLast Go.Proofs.YtgdogjnjbinoiaaW.PrintMore
attribute [local go_sem] max2_int min2_int max_two min_two max_three min_three max_four min_four   -- for this text's walks alone
set_option linter.unusedVariables false
set_option linter.unusedSimpArgs false

/-! ### casketlaw14_HmacBits: function 10 -/
mutual

def casketlaw14_HmacBits.j0 : Nat → List Int → List Int → Int → Int → Bool → Bool → Option (Bool)
  | 0, _, _, _, _, _, _ => none
  | k + 1, x0, x1, x2, x3, x9, x21 => if x21 = true then (some x9) else ((hmac_MAC.f x0 x1).bind fun t334 => (if (t334.length : Int) = 32 then ((hmac_Check.f k x0 x1 t334).bind fun t337 => (casketlaw14_HmacBits.j1 k x0 x1 x2 x3 x9 t334 (!t337))) else (casketlaw14_HmacBits.j1 k x0 x1 x2 x3 x9 t334 true)))

def casketlaw14_HmacBits.j1 : Nat → List Int → List Int → Int → Int → Bool → List Int → Bool → Option (Bool)
  | 0, _, _, _, _, _, _, _ => none
  | k + 1, x0, x1, x2, x3, x9, x10, x35 => if x35 = true then (some false) else ((some (([] : List Int) : List Int)).bind fun y338 => (if y338.length + x10.length < 140737488355328 then ((some (y338 ++ x10 : List Int)).bind fun y341 => (if 0 ≤ (wrap64 (Int.tdiv (Go.bits .and .i64 x2 255) 8)) then (if (wrap64 (Int.tdiv (Go.bits .and .i64 x2 255) 8)) < (y341.length : Int) then (if 0 ≤ (IntKind.u64.wrap (Int.tmod (Go.bits .and .i64 x2 255) 8)) then (if x9 = true then ((hmac_Check.f k x0 x1 (y341.set ((wrap64 (Int.tdiv (Go.bits .and .i64 x2 255) 8)) : Int).toNat (Go.bits .xor .u8 (rd y341 (wrap64 (Int.tdiv (Go.bits .and .i64 x2 255) 8))) (shl .u8 1 (IntKind.u64.wrap (Int.tmod (Go.bits .and .i64 x2 255) 8)))))).bind fun t346 => (if t346 = true then (some false) else (if 0 ≤ (Go.bits .and .i64 x3 31) then (if (Go.bits .and .i64 x3 31) ≤ (x10.length : Int) then ((hmac_Check.f k x0 x1 (x10.take ((Go.bits .and .i64 x3 31) : Int).toNat)).bind fun t351 => (if t351 = true then (some false) else ((some (([] : List Int) : List Int)).bind fun y352 => (if y352.length + x10.length < 140737488355328 then ((some (y352 ++ x10 : List Int)).bind fun y355 => (if y355.length < 140737488355328 then ((hmac_Check.f k x0 x1 (y355 ++ [0])).bind fun t361 => (some (!t361))) else (none))) else (none))))) else (none)) else (none)))) else (some false)) else (none)) else (none)) else (none))) else (none)))
end

def casketlaw14_HmacBits.f (k : Nat) (l0 : List Int) (l1 : List Int) (a2 : Int) (a3 : Int) : Option (Bool) := (casketlaw14_awake.f k).bind fun t333 => (if (l0.length : Int) > 300 then (casketlaw14_HmacBits.j0 k l0 l1 a2 a3 t333 true) else (casketlaw14_HmacBits.j0 k l0 l1 a2 a3 t333 (decide ((l1.length : Int) > 1000))))

theorem casketlaw14_HmacBits.mono_l : ∀ k, (∀ y0 y1 y2 y3 y4 y5, LeO (casketlaw14_HmacBits.j0 k y0 y1 y2 y3 y4 y5) (casketlaw14_HmacBits.j0 (k + 1) y0 y1 y2 y3 y4 y5)) ∧ (∀ y0 y1 y2 y3 y4 y5 y6, LeO (casketlaw14_HmacBits.j1 k y0 y1 y2 y3 y4 y5 y6) (casketlaw14_HmacBits.j1 (k + 1) y0 y1 y2 y3 y4 y5 y6))
  | 0 => ⟨fun _ _ _ _ _ _ r h => by simp [casketlaw14_HmacBits.j0] at h, fun _ _ _ _ _ _ _ r h => by simp [casketlaw14_HmacBits.j1] at h⟩
  | k + 1 => by
    obtain ⟨ih0, ih1⟩ := casketlaw14_HmacBits.mono_l k
    refine ⟨?_, ?_⟩
    · intro y0 y1 y2 y3 y4 y5
      unfold casketlaw14_HmacBits.j0
      repeat' first
      | (with_reducible exact ih0 _ _ _ _ _ _)
      | (with_reducible exact ih1 _ _ _ _ _ _ _)
      | (with_reducible exact casketlaw14_awake.mono _)
      | (with_reducible exact hmac_Check.mono _ _ _ _)
      | (with_reducible exact LeO.refl _)
      | (with_reducible exact LeO.none _)
      | (with_reducible refine LeO.ite ?_ ?_)
      | (with_reducible refine LeO.bind ?_ (fun _ => ?_))
      | exact ih0 _ _ _ _ _ _
      | exact ih1 _ _ _ _ _ _ _
      | exact casketlaw14_awake.mono _
      | exact hmac_Check.mono _ _ _ _
      | exact LeO.none _
      | refine LeO.ite ?_ ?_
      | refine LeO.bind ?_ (fun _ => ?_)
    · intro y0 y1 y2 y3 y4 y5 y6
      unfold casketlaw14_HmacBits.j1
      repeat' first
      | (with_reducible exact ih0 _ _ _ _ _ _)
      | (with_reducible exact ih1 _ _ _ _ _ _ _)
      | (with_reducible exact casketlaw14_awake.mono _)
      | (with_reducible exact hmac_Check.mono _ _ _ _)
      | (with_reducible exact LeO.refl _)
      | (with_reducible exact LeO.none _)
      | (with_reducible refine LeO.ite ?_ ?_)
      | (with_reducible refine LeO.bind ?_ (fun _ => ?_))
      | exact ih0 _ _ _ _ _ _
      | exact ih1 _ _ _ _ _ _ _
      | exact casketlaw14_awake.mono _
      | exact hmac_Check.mono _ _ _ _
      | exact LeO.none _
      | refine LeO.ite ?_ ?_
      | refine LeO.bind ?_ (fun _ => ?_)

theorem casketlaw14_HmacBits.mono : ∀ a0 a1 a2 a3 k, LeO (casketlaw14_HmacBits.f k a0 a1 a2 a3) (casketlaw14_HmacBits.f (k + 1) a0 a1 a2 a3) := by
  intro a0 a1 a2 a3 k
  obtain ⟨ih0, ih1⟩ := casketlaw14_HmacBits.mono_l k
  unfold casketlaw14_HmacBits.f
  repeat' first
      | (with_reducible exact ih0 _ _ _ _ _ _)
      | (with_reducible exact ih1 _ _ _ _ _ _ _)
      | (with_reducible exact casketlaw14_awake.mono _)
      | (with_reducible exact hmac_Check.mono _ _ _ _)
      | (with_reducible exact LeO.refl _)
      | (with_reducible exact LeO.none _)
      | (with_reducible refine LeO.ite ?_ ?_)
      | (with_reducible refine LeO.bind ?_ (fun _ => ?_))
      | exact ih0 _ _ _ _ _ _
      | exact ih1 _ _ _ _ _ _ _
      | exact casketlaw14_awake.mono _
      | exact hmac_Check.mono _ _ _ _
      | exact LeO.none _
      | refine LeO.ite ?_ ?_
      | refine LeO.bind ?_ (fun _ => ?_)

/-- THE ONE PURE STATEMENT of casketlaw14_HmacBits: yours. -/
def casketlaw14_HmacBits.Pure : Prop := ∀ (l0 : List Int) (l1 : List Int) (a2 : Int) (a3 : Int), l0.length ≤ maxLen → l0.length * 1 ≤ 140737488351232 → (∀ x ∈ l0, (Lit.int .u8 x).wf = true) → l1.length ≤ maxLen → l1.length * 1 ≤ 140737488351232 → (∀ x ∈ l1, (Lit.int .u8 x).wf = true) → (Lit.int .i64 a2).wf = true → (Lit.int .i64 a3).wf = true → ∃ k, casketlaw14_HmacBits.f k l0 l1 a2 a3 = some true

end Go.Proofs.Ytgdogjnjbinoiaa.Q
