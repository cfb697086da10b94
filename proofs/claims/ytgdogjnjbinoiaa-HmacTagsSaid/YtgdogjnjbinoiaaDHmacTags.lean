/- The pure functions (plain Lean over whole numbers and lists) of: casketlaw14_HmacTags. -/
import Derived.Test.YtgdogjnjbinoiaaWWords
import Derived.Test.YtgdogjnjbinoiaaWAll
import Derived.Test.YtgdogjnjbinoiaaDhmac
import Derived.Test.YtgdogjnjbinoiaaDref13
import Derived.Test.YtgdogjnjbinoiaaDref14
namespace Go.Proofs.Ytgdogjnjbinoiaa.Q
open Go.RowKit Go.Proofs.YtgdogjnjbinoiaaW.PrintWords Go.Proofs.YtgdogjnjbinoiaaW.PrintLast Go.Proofs.YtgdogjnjbinoiaaW.PrintMore
attribute [local go_sem] max2_int min2_int max_two min_two max_three min_three max_four min_four   -- for this text's walks alone
set_option linter.unusedVariables false
set_option linter.unusedSimpArgs false

/-! ### casketlaw14_HmacTags: function 9 -/
def casketlaw14_HmacTags.j0 : Nat → List Int → List Int → List Int → Bool → Bool → Option (Bool)
  | 0, _, _, _, _, _ => none
  | k + 1, x0, x1, x2, x7, x21 => if x21 = true then (some x7) else (if x7 = true then ((hmac_MAC.f x0 x1).bind fun t322 => ((casketref14_MAC.f k x0 x1).bind fun t325 => ((casketlaw14_same.f k t322 t325).bind fun t328 => (if t328 = true then ((hmac_Check.f k x0 x1 x2).bind fun t329 => ((casketref14_Check.f k x0 x1 x2).bind fun t330 => (if (t329 == t330) = true then ((hmac_Same.f k x1 x2).bind fun t331 => ((casketref01_Same.f k x1 x2).bind fun t332 => (some (t331 == t332)))) else (some false)))) else (some false))))) else (some false))

def casketlaw14_HmacTags.f (k : Nat) (l0 : List Int) (l1 : List Int) (l2 : List Int) : Option (Bool) := (casketlaw14_awake.f k).bind fun t321 => (if (l0.length : Int) > 300 then (casketlaw14_HmacTags.j0 k l0 l1 l2 t321 true) else (if (l1.length : Int) > 1000 then (casketlaw14_HmacTags.j0 k l0 l1 l2 t321 true) else (casketlaw14_HmacTags.j0 k l0 l1 l2 t321 (decide ((l2.length : Int) > 300)))))

theorem casketlaw14_HmacTags.mono_l : ∀ k, (∀ y0 y1 y2 y3 y4, LeO (casketlaw14_HmacTags.j0 k y0 y1 y2 y3 y4) (casketlaw14_HmacTags.j0 (k + 1) y0 y1 y2 y3 y4))
  | 0 => fun _ _ _ _ _ r h => by simp [casketlaw14_HmacTags.j0] at h
  | k + 1 => by
    have ih0 := casketlaw14_HmacTags.mono_l k
    · intro y0 y1 y2 y3 y4
      unfold casketlaw14_HmacTags.j0
      repeat' first
      | (with_reducible exact ih0 _ _ _ _ _)
      | (with_reducible exact casketlaw14_awake.mono _)
      | (with_reducible exact casketlaw14_same.mono _ _ _)
      | (with_reducible exact casketref01_Same.mono _ _ _)
      | (with_reducible exact casketref14_Check.mono _ _ _ _)
      | (with_reducible exact casketref14_MAC.mono _ _ _)
      | (with_reducible exact hmac_Check.mono _ _ _ _)
      | (with_reducible exact hmac_Same.mono _ _ _)
      | (with_reducible exact LeO.refl _)
      | (with_reducible exact LeO.none _)
      | (with_reducible refine LeO.ite ?_ ?_)
      | (with_reducible refine LeO.bind ?_ (fun _ => ?_))
      | exact ih0 _ _ _ _ _
      | exact casketlaw14_awake.mono _
      | exact casketlaw14_same.mono _ _ _
      | exact casketref01_Same.mono _ _ _
      | exact casketref14_Check.mono _ _ _ _
      | exact casketref14_MAC.mono _ _ _
      | exact hmac_Check.mono _ _ _ _
      | exact hmac_Same.mono _ _ _
      | exact LeO.none _
      | refine LeO.ite ?_ ?_
      | refine LeO.bind ?_ (fun _ => ?_)

theorem casketlaw14_HmacTags.mono : ∀ a0 a1 a2 k, LeO (casketlaw14_HmacTags.f k a0 a1 a2) (casketlaw14_HmacTags.f (k + 1) a0 a1 a2) := by
  intro a0 a1 a2 k
  have ih0 := casketlaw14_HmacTags.mono_l k
  unfold casketlaw14_HmacTags.f
  repeat' first
      | (with_reducible exact ih0 _ _ _ _ _)
      | (with_reducible exact casketlaw14_awake.mono _)
      | (with_reducible exact casketlaw14_same.mono _ _ _)
      | (with_reducible exact casketref01_Same.mono _ _ _)
      | (with_reducible exact casketref14_Check.mono _ _ _ _)
      | (with_reducible exact casketref14_MAC.mono _ _ _)
      | (with_reducible exact hmac_Check.mono _ _ _ _)
      | (with_reducible exact hmac_Same.mono _ _ _)
      | (with_reducible exact LeO.refl _)
      | (with_reducible exact LeO.none _)
      | (with_reducible refine LeO.ite ?_ ?_)
      | (with_reducible refine LeO.bind ?_ (fun _ => ?_))
      | exact ih0 _ _ _ _ _
      | exact casketlaw14_awake.mono _
      | exact casketlaw14_same.mono _ _ _
      | exact casketref01_Same.mono _ _ _
      | exact casketref14_Check.mono _ _ _ _
      | exact casketref14_MAC.mono _ _ _
      | exact hmac_Check.mono _ _ _ _
      | exact hmac_Same.mono _ _ _
      | exact LeO.none _
      | refine LeO.ite ?_ ?_
      | refine LeO.bind ?_ (fun _ => ?_)

/-- THE ONE PURE STATEMENT of casketlaw14_HmacTags: yours. -/
def casketlaw14_HmacTags.Pure : Prop := ∀ (l0 : List Int) (l1 : List Int) (l2 : List Int), l0.length ≤ maxLen → l0.length * 1 ≤ 140737488351232 → (∀ x ∈ l0, (Lit.int .u8 x).wf = true) → l1.length ≤ maxLen → l1.length * 1 ≤ 140737488351232 → (∀ x ∈ l1, (Lit.int .u8 x).wf = true) → l2.length ≤ maxLen → l2.length * 1 ≤ 140737488351232 → (∀ x ∈ l2, (Lit.int .u8 x).wf = true) → ∃ k, casketlaw14_HmacTags.f k l0 l1 l2 = some true

end Go.Proofs.Ytgdogjnjbinoiaa.Q
