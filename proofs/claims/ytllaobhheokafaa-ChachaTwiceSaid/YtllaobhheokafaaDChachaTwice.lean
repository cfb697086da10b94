/- The pure functions (plain Lean over whole numbers and lists) of: casketlaw15_ChachaTwice. -/
import Derived.Test.YtllaobhheokafaaWWords
import Derived.Test.YtllaobhheokafaaWLast
import Derived.Test.YtllaobhheokafaaWMore
import Derived.Test.YtllaobhheokafaaDchacha
import Derived.Test.YtllaobhheokafaaDref15
namespace Go.Proofs.Ytllaobhheokafaa.Q
open Go.RowKit Go.Proofs.YtllaobhheokafaaW.PrintWords Go.Proofs.YtllaobhheokafaaW.PrintLast Go.Proofs.YtllaobhheokafaaW.PrintMore
attribute [local go_sem] max2_int min2_int max_two min_two max_three min_three max_four min_four   -- for this text's walks alone
set_option linter.unusedVariables false
set_option linter.unusedSimpArgs false

/-! ### casketlaw15_ChachaTwice: function 6 -/
mutual

def casketlaw15_ChachaTwice.j0 : Nat → List Int → Int → List Int → List Int → List Int → Bool → Bool → Option (Bool)
  | 0, _, _, _, _, _, _, _ => none
  | k + 1, x0, x1, x2, x3, x4, x11, x27 => if x27 = true then (some x11) else ((chacha_Stream.f k x0 x1 x2 x3).bind fun bt223 => (if bt223.2 = 0 then ((chacha_Stream.f k x0 x1 x2 bt223.1).bind fun bt227 => (if bt227.2 = 0 then ((casketlaw15_same.f k bt227.1 x3).bind fun t231 => (casketlaw15_ChachaTwice.j1 k x0 x1 x2 x3 x4 x11 bt223.1 (!t231))) else (casketlaw15_ChachaTwice.j1 k x0 x1 x2 x3 x4 x11 bt223.1 true))) else (if x11 = true then (some ((bt223.1.length : Int) == 0)) else (some false))))

def casketlaw15_ChachaTwice.j1 : Nat → List Int → Int → List Int → List Int → List Int → Bool → List Int → Bool → Option (Bool)
  | 0, _, _, _, _, _, _, _, _ => none
  | k + 1, x0, x1, x2, x3, x4, x11, x12, x60 => if x60 = true then (some false) else ((chacha_Stream.f k x0 x1 x2 x4).bind fun bt232 => (if bt232.2 = 0 then (casketlaw15_ChachaTwice.l0 k x3 x4 x11 x12 bt232.1 0) else (if x11 = true then (some ((bt232.1.length : Int) == 0)) else (some false))))

def casketlaw15_ChachaTwice.l0 : Nat → List Int → List Int → Bool → List Int → List Int → Int → Option (Bool)
  | 0, _, _, _, _, _, _ => none
  | k + 1, x3, x4, x11, x12, x16, x18 => if x18 < (x3.length : Int) then (casketlaw15_ChachaTwice.j3 k x3 x4 x11 x12 x16 x18 (decide (x18 < (x4.length : Int)))) else (casketlaw15_ChachaTwice.j3 k x3 x4 x11 x12 x16 x18 false)

def casketlaw15_ChachaTwice.j3 : Nat → List Int → List Int → Bool → List Int → List Int → Int → Bool → Option (Bool)
  | 0, _, _, _, _, _, _, _ => none
  | k + 1, x3, x4, x11, x12, x16, x18, x86 => if x86 = true then (if x18 ≥ (x12.length : Int) then (some false) else (if x18 ≥ (x16.length : Int) then (some false) else (if 0 ≤ x18 then (if x18 < (x12.length : Int) then (if x18 < (x16.length : Int) then (if x18 < (x3.length : Int) then (if x18 < (x4.length : Int) then (if (Go.bits .xor .u8 (rd x12 x18) (rd x16 x18)) = (Go.bits .xor .u8 (rd x3 x18) (rd x4 x18)) then (casketlaw15_ChachaTwice.l0 k x3 x4 x11 x12 x16 (wrap64 (x18 + 1))) else (some false)) else (none)) else (none)) else (none)) else (none)) else (none)))) else (if x11 = true then (if (x12.length : Int) = (x3.length : Int) then (some ((x16.length : Int) == (x4.length : Int))) else (some false)) else (some false))
end

def casketlaw15_ChachaTwice.f (k : Nat) (l0 : List Int) (a1 : Int) (l2 : List Int) (l3 : List Int) (l4 : List Int) : Option (Bool) := (casketlaw15_awake.f).bind fun t222 => (if (l3.length : Int) > 1000 then (casketlaw15_ChachaTwice.j0 k l0 a1 l2 l3 l4 t222 true) else (casketlaw15_ChachaTwice.j0 k l0 a1 l2 l3 l4 t222 (decide ((l4.length : Int) > 1000))))

theorem casketlaw15_ChachaTwice.mono_l : ∀ k, (∀ y0 y1 y2 y3 y4 y5 y6, LeO (casketlaw15_ChachaTwice.j0 k y0 y1 y2 y3 y4 y5 y6) (casketlaw15_ChachaTwice.j0 (k + 1) y0 y1 y2 y3 y4 y5 y6)) ∧ (∀ y0 y1 y2 y3 y4 y5 y6 y7, LeO (casketlaw15_ChachaTwice.j1 k y0 y1 y2 y3 y4 y5 y6 y7) (casketlaw15_ChachaTwice.j1 (k + 1) y0 y1 y2 y3 y4 y5 y6 y7)) ∧ (∀ y0 y1 y2 y3 y4 y5, LeO (casketlaw15_ChachaTwice.l0 k y0 y1 y2 y3 y4 y5) (casketlaw15_ChachaTwice.l0 (k + 1) y0 y1 y2 y3 y4 y5)) ∧ (∀ y0 y1 y2 y3 y4 y5 y6, LeO (casketlaw15_ChachaTwice.j3 k y0 y1 y2 y3 y4 y5 y6) (casketlaw15_ChachaTwice.j3 (k + 1) y0 y1 y2 y3 y4 y5 y6))
  | 0 => ⟨fun _ _ _ _ _ _ _ r h => by simp [casketlaw15_ChachaTwice.j0] at h, fun _ _ _ _ _ _ _ _ r h => by simp [casketlaw15_ChachaTwice.j1] at h, fun _ _ _ _ _ _ r h => by simp [casketlaw15_ChachaTwice.l0] at h, fun _ _ _ _ _ _ _ r h => by simp [casketlaw15_ChachaTwice.j3] at h⟩
  | k + 1 => by
    obtain ⟨ih0, ih1, ih2, ih3⟩ := casketlaw15_ChachaTwice.mono_l k
    refine ⟨?_, ?_, ?_, ?_⟩
    · intro y0 y1 y2 y3 y4 y5 y6
      unfold casketlaw15_ChachaTwice.j0
      repeat' first
      | (with_reducible exact ih0 _ _ _ _ _ _ _)
      | (with_reducible exact ih1 _ _ _ _ _ _ _ _)
      | (with_reducible exact ih2 _ _ _ _ _ _)
      | (with_reducible exact ih3 _ _ _ _ _ _ _)
      | (with_reducible exact casketlaw15_same.mono _ _ _)
      | (with_reducible exact chacha_Stream.mono _ _ _ _ _)
      | (with_reducible exact LeO.refl _)
      | (with_reducible exact LeO.none _)
      | (with_reducible refine LeO.ite ?_ ?_)
      | (with_reducible refine LeO.bind ?_ (fun _ => ?_))
      | exact ih0 _ _ _ _ _ _ _
      | exact ih1 _ _ _ _ _ _ _ _
      | exact ih2 _ _ _ _ _ _
      | exact ih3 _ _ _ _ _ _ _
      | exact casketlaw15_same.mono _ _ _
      | exact chacha_Stream.mono _ _ _ _ _
      | exact LeO.none _
      | refine LeO.ite ?_ ?_
      | refine LeO.bind ?_ (fun _ => ?_)
    · intro y0 y1 y2 y3 y4 y5 y6 y7
      unfold casketlaw15_ChachaTwice.j1
      repeat' first
      | (with_reducible exact ih0 _ _ _ _ _ _ _)
      | (with_reducible exact ih1 _ _ _ _ _ _ _ _)
      | (with_reducible exact ih2 _ _ _ _ _ _)
      | (with_reducible exact ih3 _ _ _ _ _ _ _)
      | (with_reducible exact casketlaw15_same.mono _ _ _)
      | (with_reducible exact chacha_Stream.mono _ _ _ _ _)
      | (with_reducible exact LeO.refl _)
      | (with_reducible exact LeO.none _)
      | (with_reducible refine LeO.ite ?_ ?_)
      | (with_reducible refine LeO.bind ?_ (fun _ => ?_))
      | exact ih0 _ _ _ _ _ _ _
      | exact ih1 _ _ _ _ _ _ _ _
      | exact ih2 _ _ _ _ _ _
      | exact ih3 _ _ _ _ _ _ _
      | exact casketlaw15_same.mono _ _ _
      | exact chacha_Stream.mono _ _ _ _ _
      | exact LeO.none _
      | refine LeO.ite ?_ ?_
      | refine LeO.bind ?_ (fun _ => ?_)
    · intro y0 y1 y2 y3 y4 y5
      unfold casketlaw15_ChachaTwice.l0
      repeat' first
      | (with_reducible exact ih0 _ _ _ _ _ _ _)
      | (with_reducible exact ih1 _ _ _ _ _ _ _ _)
      | (with_reducible exact ih2 _ _ _ _ _ _)
      | (with_reducible exact ih3 _ _ _ _ _ _ _)
      | (with_reducible exact casketlaw15_same.mono _ _ _)
      | (with_reducible exact chacha_Stream.mono _ _ _ _ _)
      | (with_reducible exact LeO.refl _)
      | (with_reducible exact LeO.none _)
      | (with_reducible refine LeO.ite ?_ ?_)
      | (with_reducible refine LeO.bind ?_ (fun _ => ?_))
      | exact ih0 _ _ _ _ _ _ _
      | exact ih1 _ _ _ _ _ _ _ _
      | exact ih2 _ _ _ _ _ _
      | exact ih3 _ _ _ _ _ _ _
      | exact casketlaw15_same.mono _ _ _
      | exact chacha_Stream.mono _ _ _ _ _
      | exact LeO.none _
      | refine LeO.ite ?_ ?_
      | refine LeO.bind ?_ (fun _ => ?_)
    · intro y0 y1 y2 y3 y4 y5 y6
      unfold casketlaw15_ChachaTwice.j3
      repeat' first
      | (with_reducible exact ih0 _ _ _ _ _ _ _)
      | (with_reducible exact ih1 _ _ _ _ _ _ _ _)
      | (with_reducible exact ih2 _ _ _ _ _ _)
      | (with_reducible exact ih3 _ _ _ _ _ _ _)
      | (with_reducible exact casketlaw15_same.mono _ _ _)
      | (with_reducible exact chacha_Stream.mono _ _ _ _ _)
      | (with_reducible exact LeO.refl _)
      | (with_reducible exact LeO.none _)
      | (with_reducible refine LeO.ite ?_ ?_)
      | (with_reducible refine LeO.bind ?_ (fun _ => ?_))
      | exact ih0 _ _ _ _ _ _ _
      | exact ih1 _ _ _ _ _ _ _ _
      | exact ih2 _ _ _ _ _ _
      | exact ih3 _ _ _ _ _ _ _
      | exact casketlaw15_same.mono _ _ _
      | exact chacha_Stream.mono _ _ _ _ _
      | exact LeO.none _
      | refine LeO.ite ?_ ?_
      | refine LeO.bind ?_ (fun _ => ?_)

theorem casketlaw15_ChachaTwice.mono : ∀ a0 a1 a2 a3 a4 k, LeO (casketlaw15_ChachaTwice.f k a0 a1 a2 a3 a4) (casketlaw15_ChachaTwice.f (k + 1) a0 a1 a2 a3 a4) := by
  intro a0 a1 a2 a3 a4 k
  obtain ⟨ih0, ih1, ih2, ih3⟩ := casketlaw15_ChachaTwice.mono_l k
  unfold casketlaw15_ChachaTwice.f
  repeat' first
      | (with_reducible exact ih0 _ _ _ _ _ _ _)
      | (with_reducible exact ih1 _ _ _ _ _ _ _ _)
      | (with_reducible exact ih2 _ _ _ _ _ _)
      | (with_reducible exact ih3 _ _ _ _ _ _ _)
      | (with_reducible exact casketlaw15_same.mono _ _ _)
      | (with_reducible exact chacha_Stream.mono _ _ _ _ _)
      | (with_reducible exact LeO.refl _)
      | (with_reducible exact LeO.none _)
      | (with_reducible refine LeO.ite ?_ ?_)
      | (with_reducible refine LeO.bind ?_ (fun _ => ?_))
      | exact ih0 _ _ _ _ _ _ _
      | exact ih1 _ _ _ _ _ _ _ _
      | exact ih2 _ _ _ _ _ _
      | exact ih3 _ _ _ _ _ _ _
      | exact casketlaw15_same.mono _ _ _
      | exact chacha_Stream.mono _ _ _ _ _
      | exact LeO.none _
      | refine LeO.ite ?_ ?_
      | refine LeO.bind ?_ (fun _ => ?_)

/-- THE ONE PURE STATEMENT of casketlaw15_ChachaTwice: yours. -/
def casketlaw15_ChachaTwice.Pure : Prop := ∀ (l0 : List Int) (a1 : Int) (l2 : List Int) (l3 : List Int) (l4 : List Int), l0.length ≤ maxLen → l0.length * 1 ≤ 140737488351232 → (∀ x ∈ l0, (Lit.int .u8 x).wf = true) → (Lit.int .u32 a1).wf = true → l2.length ≤ maxLen → l2.length * 1 ≤ 140737488351232 → (∀ x ∈ l2, (Lit.int .u8 x).wf = true) → l3.length ≤ maxLen → l3.length * 1 ≤ 140737488351232 → (∀ x ∈ l3, (Lit.int .u8 x).wf = true) → l4.length ≤ maxLen → l4.length * 1 ≤ 140737488351232 → (∀ x ∈ l4, (Lit.int .u8 x).wf = true) → ∃ k, casketlaw15_ChachaTwice.f k l0 a1 l2 l3 l4 = some true

end Go.Proofs.Ytllaobhheokafaa.Q
