/- The pure functions (plain Lean over whole numbers and lists) of: casketlaw13_ShaLong. -/
import Derived.Test.YtgdogjnjbinoiaaWWords
import Derived.Test.YtgdogjnjbinoiaaWLast
import Derived.Test.YtgdogjnjbinoiaaWMore
import Derived.Test.YtgdogjnjbinoiaaDref13
import Derived.Test.YtgdogjnjbinoiaaDsha
namespace Go.Proofs.Ytgdogjnjbinoiaa.Q
open Go.RowKit Go.Proofs.YtgdogjnjbinoiaaW.PrintWords Go.Proofs.YtgdogjnjbinoiaaW.PrintLast Go.Proofs.YtgdogjnjbinoiaaW.PrintMore
attribute [local go_sem] max2_int min2_int max_two min_two max_three min_three max_four min_four   -- for this text's walks alone
set_option linter.unusedVariables false
set_option linter.unusedSimpArgs false

/-! ### casketlaw13_ShaLong: function 5 -/
def casketlaw13_ShaLong.l0 : Nat → Int → Bool → List Int → Int → Option (Bool)
  | 0, _, _, _, _ => none
  | k + 1, x0, x5, x6, x7 => if x7 < (x6.length : Int) then (if 0 ≤ x7 then (casketlaw13_ShaLong.l0 k x0 x5 (x6.set (x7 : Int).toNat x0) (wrap64 (x7 + 1))) else (none)) else (if x5 = true then ((sha_Sum.f x6).bind fun t241 => ((casketref13_Sum.f k x6).bind fun t244 => ((casketlaw13_same.f k t241 t244).bind fun t247 => (some t247)))) else (some false))

def casketlaw13_ShaLong.f (k : Nat) (a0 : Int) (a1 : Int) : Option (Bool) := (casketlaw13_awake.f).bind fun t236 => (if 0 ≤ (Go.bits .and .i64 a1 511) then (if (Go.bits .and .i64 a1 511 : Int).toNat ≤ 281474976710656 then (casketlaw13_ShaLong.l0 k a0 t236 (List.replicate (Go.bits .and .i64 a1 511 : Int).toNat 0) 0) else (none)) else (none))

theorem casketlaw13_ShaLong.mono_l : ∀ k, (∀ y0 y1 y2 y3, LeO (casketlaw13_ShaLong.l0 k y0 y1 y2 y3) (casketlaw13_ShaLong.l0 (k + 1) y0 y1 y2 y3))
  | 0 => fun _ _ _ _ r h => by simp [casketlaw13_ShaLong.l0] at h
  | k + 1 => by
    have ih0 := casketlaw13_ShaLong.mono_l k
    · intro y0 y1 y2 y3
      unfold casketlaw13_ShaLong.l0
      repeat' first
      | (with_reducible exact ih0 _ _ _ _)
      | (with_reducible exact casketlaw13_same.mono _ _ _)
      | (with_reducible exact casketref13_Sum.mono _ _)
      | (with_reducible exact LeO.refl _)
      | (with_reducible exact LeO.none _)
      | (with_reducible refine LeO.ite ?_ ?_)
      | (with_reducible refine LeO.bind ?_ (fun _ => ?_))
      | exact ih0 _ _ _ _
      | exact casketlaw13_same.mono _ _ _
      | exact casketref13_Sum.mono _ _
      | exact LeO.none _
      | refine LeO.ite ?_ ?_
      | refine LeO.bind ?_ (fun _ => ?_)

theorem casketlaw13_ShaLong.mono : ∀ a0 a1 k, LeO (casketlaw13_ShaLong.f k a0 a1) (casketlaw13_ShaLong.f (k + 1) a0 a1) := by
  intro a0 a1 k
  have ih0 := casketlaw13_ShaLong.mono_l k
  unfold casketlaw13_ShaLong.f
  repeat' first
      | (with_reducible exact ih0 _ _ _ _)
      | (with_reducible exact casketlaw13_same.mono _ _ _)
      | (with_reducible exact casketref13_Sum.mono _ _)
      | (with_reducible exact LeO.refl _)
      | (with_reducible exact LeO.none _)
      | (with_reducible refine LeO.ite ?_ ?_)
      | (with_reducible refine LeO.bind ?_ (fun _ => ?_))
      | exact ih0 _ _ _ _
      | exact casketlaw13_same.mono _ _ _
      | exact casketref13_Sum.mono _ _
      | exact LeO.none _
      | refine LeO.ite ?_ ?_
      | refine LeO.bind ?_ (fun _ => ?_)

/-- THE ONE PURE STATEMENT of casketlaw13_ShaLong: yours. -/
def casketlaw13_ShaLong.Pure : Prop := ∀ (a0 : Int) (a1 : Int), (Lit.int .u8 a0).wf = true → (Lit.int .i64 a1).wf = true → ∃ k, casketlaw13_ShaLong.f k a0 a1 = some true

end Go.Proofs.Ytgdogjnjbinoiaa.Q
