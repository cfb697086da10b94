/- The pure functions (plain Lean over whole numbers and lists) of: casketlaw14_HmacLonger. -/
import Derived.Test.YtgdogjnjbinoiaaWWords
import Derived.Test.YtgdogjnjbinoiaaWAll
import Derived.Test.YtgdogjnjbinoiaaDhmac
import Derived.Test.YtgdogjnjbinoiaaDref13
namespace Go.Proofs.Ytgdogjnjbinoiaa.Q
open Go.RowKit Go.Proofs.YtgdogjnjbinoiaaW.PrintWords Go.Proofs.YtgdogjnjbinoiaaW.PrintLast Go.Proofs.YtgdogjnjbinoiaaW.PrintMore
attribute [local go_sem] max2_int min2_int max_two min_two max_three min_three max_four min_four   -- for this text's walks alone
set_option linter.unusedVariables false
set_option linter.unusedSimpArgs false

/-! ### casketlaw14_HmacLonger: function 14 -/
mutual

def casketlaw14_HmacLonger.j0 : Nat → List Int → List Int → Int → Int → Bool → Bool → Option (Bool)
  | 0, _, _, _, _, _, _ => none
  | k + 1, x0, x1, x2, x3, x9, x26 => if x26 = true then (some x9) else ((hmac_Expand.f x0 x1 (Go.bits .and .i64 x2 255)).bind fun bt444 => ((hmac_Expand.f x0 x1 (wrap64 ((Go.bits .and .i64 x2 255) + (Go.bits .and .i64 x3 255)))).bind fun bt448 => ((hmac_Expand.f x0 x1 32).bind fun bt452 => (if bt444.2 = 0 then (if bt448.2 = 0 then (if bt452.2 = 0 then (if (bt444.1.length : Int) = (Go.bits .and .i64 x2 255) then (if (bt448.1.length : Int) = (wrap64 ((Go.bits .and .i64 x2 255) + (Go.bits .and .i64 x3 255))) then (casketlaw14_HmacLonger.j1 k x0 x1 x9 (Go.bits .and .i64 x2 255) bt444.1 bt448.1 bt452.1 ((bt452.1.length : Int) != 32)) else (casketlaw14_HmacLonger.j1 k x0 x1 x9 (Go.bits .and .i64 x2 255) bt444.1 bt448.1 bt452.1 true)) else (casketlaw14_HmacLonger.j1 k x0 x1 x9 (Go.bits .and .i64 x2 255) bt444.1 bt448.1 bt452.1 true)) else (casketlaw14_HmacLonger.j1 k x0 x1 x9 (Go.bits .and .i64 x2 255) bt444.1 bt448.1 bt452.1 true)) else (casketlaw14_HmacLonger.j1 k x0 x1 x9 (Go.bits .and .i64 x2 255) bt444.1 bt448.1 bt452.1 true)) else (casketlaw14_HmacLonger.j1 k x0 x1 x9 (Go.bits .and .i64 x2 255) bt444.1 bt448.1 bt452.1 true)))))

def casketlaw14_HmacLonger.j1 : Nat → List Int → List Int → Bool → Int → List Int → List Int → List Int → Bool → Option (Bool)
  | 0, _, _, _, _, _, _, _, _ => none
  | k + 1, x0, x1, x9, x10, x12, x14, x16, x80 => if x80 = true then (some false) else (if x9 = true then (if 0 ≤ x10 then (if x10 ≤ (x14.length : Int) then ((casketlaw14_same.f k x12 (x14.take (x10 : Int).toNat)).bind fun t460 => (if t460 = true then ((some (([] : List Int) : List Int)).bind fun y461 => (if y461.length + x1.length < 140737488355328 then ((some (y461 ++ x1 : List Int)).bind fun y464 => (if y464.length < 140737488355328 then ((hmac_MAC.f x0 (y464 ++ [1])).bind fun t470 => ((casketlaw14_same.f k x16 t470).bind fun t473 => (some t473))) else (none))) else (none))) else (some false))) else (none)) else (none)) else (some false))
end

def casketlaw14_HmacLonger.f (k : Nat) (l0 : List Int) (l1 : List Int) (a2 : Int) (a3 : Int) : Option (Bool) := (casketlaw14_awake.f k).bind fun t443 => (if (l0.length : Int) > 300 then (casketlaw14_HmacLonger.j0 k l0 l1 a2 a3 t443 true) else (casketlaw14_HmacLonger.j0 k l0 l1 a2 a3 t443 (decide ((l1.length : Int) > 300))))

theorem casketlaw14_HmacLonger.mono_l : ∀ k, (∀ y0 y1 y2 y3 y4 y5, LeO (casketlaw14_HmacLonger.j0 k y0 y1 y2 y3 y4 y5) (casketlaw14_HmacLonger.j0 (k + 1) y0 y1 y2 y3 y4 y5)) ∧ (∀ y0 y1 y2 y3 y4 y5 y6 y7, LeO (casketlaw14_HmacLonger.j1 k y0 y1 y2 y3 y4 y5 y6 y7) (casketlaw14_HmacLonger.j1 (k + 1) y0 y1 y2 y3 y4 y5 y6 y7))
  | 0 => ⟨fun _ _ _ _ _ _ r h => by simp [casketlaw14_HmacLonger.j0] at h, fun _ _ _ _ _ _ _ _ r h => by simp [casketlaw14_HmacLonger.j1] at h⟩
  | k + 1 => by
    obtain ⟨ih0, ih1⟩ := casketlaw14_HmacLonger.mono_l k
    refine ⟨?_, ?_⟩
    · intro y0 y1 y2 y3 y4 y5
      unfold casketlaw14_HmacLonger.j0
      repeat' first
      | (with_reducible exact ih0 _ _ _ _ _ _)
      | (with_reducible exact ih1 _ _ _ _ _ _ _ _)
      | (with_reducible exact casketlaw14_awake.mono _)
      | (with_reducible exact casketlaw14_same.mono _ _ _)
      | (with_reducible exact LeO.refl _)
      | (with_reducible exact LeO.none _)
      | (with_reducible refine LeO.ite ?_ ?_)
      | (with_reducible refine LeO.bind ?_ (fun _ => ?_))
      | exact ih0 _ _ _ _ _ _
      | exact ih1 _ _ _ _ _ _ _ _
      | exact casketlaw14_awake.mono _
      | exact casketlaw14_same.mono _ _ _
      | exact LeO.none _
      | refine LeO.ite ?_ ?_
      | refine LeO.bind ?_ (fun _ => ?_)
    · intro y0 y1 y2 y3 y4 y5 y6 y7
      unfold casketlaw14_HmacLonger.j1
      repeat' first
      | (with_reducible exact ih0 _ _ _ _ _ _)
      | (with_reducible exact ih1 _ _ _ _ _ _ _ _)
      | (with_reducible exact casketlaw14_awake.mono _)
      | (with_reducible exact casketlaw14_same.mono _ _ _)
      | (with_reducible exact LeO.refl _)
      | (with_reducible exact LeO.none _)
      | (with_reducible refine LeO.ite ?_ ?_)
      | (with_reducible refine LeO.bind ?_ (fun _ => ?_))
      | exact ih0 _ _ _ _ _ _
      | exact ih1 _ _ _ _ _ _ _ _
      | exact casketlaw14_awake.mono _
      | exact casketlaw14_same.mono _ _ _
      | exact LeO.none _
      | refine LeO.ite ?_ ?_
      | refine LeO.bind ?_ (fun _ => ?_)

theorem casketlaw14_HmacLonger.mono : ∀ a0 a1 a2 a3 k, LeO (casketlaw14_HmacLonger.f k a0 a1 a2 a3) (casketlaw14_HmacLonger.f (k + 1) a0 a1 a2 a3) := by
  intro a0 a1 a2 a3 k
  obtain ⟨ih0, ih1⟩ := casketlaw14_HmacLonger.mono_l k
  unfold casketlaw14_HmacLonger.f
  repeat' first
      | (with_reducible exact ih0 _ _ _ _ _ _)
      | (with_reducible exact ih1 _ _ _ _ _ _ _ _)
      | (with_reducible exact casketlaw14_awake.mono _)
      | (with_reducible exact casketlaw14_same.mono _ _ _)
      | (with_reducible exact LeO.refl _)
      | (with_reducible exact LeO.none _)
      | (with_reducible refine LeO.ite ?_ ?_)
      | (with_reducible refine LeO.bind ?_ (fun _ => ?_))
      | exact ih0 _ _ _ _ _ _
      | exact ih1 _ _ _ _ _ _ _ _
      | exact casketlaw14_awake.mono _
      | exact casketlaw14_same.mono _ _ _
      | exact LeO.none _
      | refine LeO.ite ?_ ?_
      | refine LeO.bind ?_ (fun _ => ?_)

/-- THE ONE PURE STATEMENT of casketlaw14_HmacLonger: yours. -/
def casketlaw14_HmacLonger.Pure : Prop := ∀ (l0 : List Int) (l1 : List Int) (a2 : Int) (a3 : Int), l0.length ≤ maxLen → l0.length * 1 ≤ 140737488351232 → (∀ x ∈ l0, (Lit.int .u8 x).wf = true) → l1.length ≤ maxLen → l1.length * 1 ≤ 140737488351232 → (∀ x ∈ l1, (Lit.int .u8 x).wf = true) → (Lit.int .i64 a2).wf = true → (Lit.int .i64 a3).wf = true → ∃ k, casketlaw14_HmacLonger.f k l0 l1 a2 a3 = some true

end Go.Proofs.Ytgdogjnjbinoiaa.Q
