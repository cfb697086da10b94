/- The pure functions (plain Lean over whole numbers and lists) of: casketlaw18_KeysDerives. -/
import Derived.Test.YtgdogjnjbinoiaaWWords
import Derived.Test.YtgdogjnjbinoiaaWAll
import Derived.Test.YtgdogjnjbinoiaaDkeys
import Derived.Test.YtgdogjnjbinoiaaDref13
import Derived.Test.YtgdogjnjbinoiaaDref18
namespace Go.Proofs.Ytgdogjnjbinoiaa.Q
open Go.RowKit Go.Proofs.YtgdogjnjbinoiaaW.PrintWords Go.Proofs.YtgdogjnjbinoiaaW.PrintLast Go.Proofs.YtgdogjnjbinoiaaW.PrintMore
attribute [local go_sem] max2_int min2_int max_two min_two max_three min_three max_four min_four   -- for this text's walks alone
set_option linter.unusedVariables false
set_option linter.unusedSimpArgs false

/-! ### casketlaw18_KeysDerives: function 15 -/
def casketlaw18_KeysDerives.j0 : Nat → List Int → Int → ByteArray → Bool → Bool → Option (Bool)
  | 0, _, _, _, _, _ => none
  | k + 1, x0, x1, x2, x7, x20 => if x20 = true then (some x7) else ((keys_Derive.f x0 x1 x2).bind fun bt577 => ((casketref18_Derive.f x0 x1 x2).bind fun bt581 => (if x7 = true then (if bt577.2 = bt581.2 then ((casketlaw18_same.f k bt577.1 bt581.1).bind fun t585 => (some t585)) else (some false)) else (some false))))

def casketlaw18_KeysDerives.f (k : Nat) (l0 : List Int) (a1 : Int) (a2 : ByteArray) : Option (Bool) := (casketlaw18_awake.f k).bind fun t576 => (if (l0.length : Int) > 300 then (casketlaw18_KeysDerives.j0 k l0 a1 a2 t576 true) else (casketlaw18_KeysDerives.j0 k l0 a1 a2 t576 (decide ((a2.size : Int) > 1000))))

theorem casketlaw18_KeysDerives.mono_l : ∀ k, (∀ y0 y1 y2 y3 y4, LeO (casketlaw18_KeysDerives.j0 k y0 y1 y2 y3 y4) (casketlaw18_KeysDerives.j0 (k + 1) y0 y1 y2 y3 y4))
  | 0 => fun _ _ _ _ _ r h => by simp [casketlaw18_KeysDerives.j0] at h
  | k + 1 => by
    have ih0 := casketlaw18_KeysDerives.mono_l k
    · intro y0 y1 y2 y3 y4
      unfold casketlaw18_KeysDerives.j0
      repeat' first
      | (with_reducible exact ih0 _ _ _ _ _)
      | (with_reducible exact casketlaw18_awake.mono _)
      | (with_reducible exact casketlaw18_same.mono _ _ _)
      | (with_reducible exact LeO.refl _)
      | (with_reducible exact LeO.none _)
      | (with_reducible refine LeO.ite ?_ ?_)
      | (with_reducible refine LeO.bind ?_ (fun _ => ?_))
      | exact ih0 _ _ _ _ _
      | exact casketlaw18_awake.mono _
      | exact casketlaw18_same.mono _ _ _
      | exact LeO.none _
      | refine LeO.ite ?_ ?_
      | refine LeO.bind ?_ (fun _ => ?_)

theorem casketlaw18_KeysDerives.mono : ∀ a0 a1 a2 k, LeO (casketlaw18_KeysDerives.f k a0 a1 a2) (casketlaw18_KeysDerives.f (k + 1) a0 a1 a2) := by
  intro a0 a1 a2 k
  have ih0 := casketlaw18_KeysDerives.mono_l k
  unfold casketlaw18_KeysDerives.f
  repeat' first
      | (with_reducible exact ih0 _ _ _ _ _)
      | (with_reducible exact casketlaw18_awake.mono _)
      | (with_reducible exact casketlaw18_same.mono _ _ _)
      | (with_reducible exact LeO.refl _)
      | (with_reducible exact LeO.none _)
      | (with_reducible refine LeO.ite ?_ ?_)
      | (with_reducible refine LeO.bind ?_ (fun _ => ?_))
      | exact ih0 _ _ _ _ _
      | exact casketlaw18_awake.mono _
      | exact casketlaw18_same.mono _ _ _
      | exact LeO.none _
      | refine LeO.ite ?_ ?_
      | refine LeO.bind ?_ (fun _ => ?_)

/-- THE ONE PURE STATEMENT of casketlaw18_KeysDerives: yours. -/
def casketlaw18_KeysDerives.Pure : Prop := ∀ (l0 : List Int) (a1 : Int) (a2 : ByteArray), l0.length ≤ maxLen → l0.length * 1 ≤ 140737488351232 → (∀ x ∈ l0, (Lit.int .u8 x).wf = true) → (Lit.int .u8 a1).wf = true → a2.size ≤ 140737488351232 → ∃ k, casketlaw18_KeysDerives.f k l0 a1 a2 = some true

end Go.Proofs.Ytgdogjnjbinoiaa.Q
