/- The pure functions (plain Lean over whole numbers and lists) of: casketlaw15_ChachaBegins. -/
import Derived.Test.YtllaobhheokafaaWWords
import Derived.Test.YtllaobhheokafaaWLast
import Derived.Test.YtllaobhheokafaaWMore
import Derived.Test.YtllaobhheokafaaDchacha
import Derived.Test.YtllaobhheokafaaDref15
namespace Go.Proofs.Ytllaobhheokafaa.Q
open Go.RowKit Go.Proofs.YtllaobhheokafaaW.PrintWords Go.Proofs.YtllaobhheokafaaW.PrintLast Go.Proofs.YtllaobhheokafaaW.PrintMore
attribute [local go_sem] max2_int min2_int max_two min_two max_three min_three max_four min_four   -- for this text's walks alone
set_option linter.unusedVariables false
set_option linter.unusedSimpArgs false

/-! ### casketlaw15_ChachaBegins: function 7 -/
def casketlaw15_ChachaBegins.j0 : Nat → List Int → Int → List Int → List Int → Bool → List Int → Bool → Option (Bool)
  | 0, _, _, _, _, _, _, _ => none
  | k + 1, x0, x1, x2, x3, x11, x12, x66 => if x66 = true then (some false) else (if (x3.length : Int) ≤ 64 then (some x11) else (if 64 ≤ (x3.length : Int) then ((chacha_Stream.f k x0 ((x1 + 1) % 4294967296) x2 (x3.drop 64)).bind fun bt256 => (if x11 = true then (if bt256.2 = 0 then (if 64 ≤ (x12.length : Int) then ((casketlaw15_same.f k (x12.drop 64) bt256.1).bind fun t264 => (some t264)) else (none)) else (some false)) else (some false))) else (none)))

def casketlaw15_ChachaBegins.f (k : Nat) (l0 : List Int) (a1 : Int) (l2 : List Int) (l3 : List Int) (a4 : Int) : Option (Bool) := (casketlaw15_awake.f).bind fun t240 => (if (l3.length : Int) > 1000 then (some t240) else ((chacha_Stream.f k l0 a1 l2 l3).bind fun bt241 => (if bt241.2 = 0 then (if 0 ≤ (mn (Go.bits .and .i64 a4 1023) (l3.length : Int)) then (if (mn (Go.bits .and .i64 a4 1023) (l3.length : Int)) ≤ (l3.length : Int) then ((chacha_Stream.f k l0 a1 l2 (l3.take ((mn (Go.bits .and .i64 a4 1023) (l3.length : Int)) : Int).toNat)).bind fun bt246 => (if bt246.2 = 0 then (if (bt241.1.length : Int) = (l3.length : Int) then (if (mn (Go.bits .and .i64 a4 1023) (l3.length : Int)) ≤ (bt241.1.length : Int) then ((casketlaw15_same.f k (bt241.1.take ((mn (Go.bits .and .i64 a4 1023) (l3.length : Int)) : Int).toNat) bt246.1).bind fun t254 => (casketlaw15_ChachaBegins.j0 k l0 a1 l2 l3 t240 bt241.1 (!t254))) else (none)) else (casketlaw15_ChachaBegins.j0 k l0 a1 l2 l3 t240 bt241.1 true)) else (casketlaw15_ChachaBegins.j0 k l0 a1 l2 l3 t240 bt241.1 true))) else (none)) else (none)) else (some t240))))

theorem casketlaw15_ChachaBegins.mono_l : ∀ k, (∀ y0 y1 y2 y3 y4 y5 y6, LeO (casketlaw15_ChachaBegins.j0 k y0 y1 y2 y3 y4 y5 y6) (casketlaw15_ChachaBegins.j0 (k + 1) y0 y1 y2 y3 y4 y5 y6))
  | 0 => fun _ _ _ _ _ _ _ r h => by simp [casketlaw15_ChachaBegins.j0] at h
  | k + 1 => by
    have ih0 := casketlaw15_ChachaBegins.mono_l k
    · intro y0 y1 y2 y3 y4 y5 y6
      unfold casketlaw15_ChachaBegins.j0
      repeat' first
      | (with_reducible exact ih0 _ _ _ _ _ _ _)
      | (with_reducible exact casketlaw15_same.mono _ _ _)
      | (with_reducible exact chacha_Stream.mono _ _ _ _ _)
      | (with_reducible exact LeO.refl _)
      | (with_reducible exact LeO.none _)
      | (with_reducible refine LeO.ite ?_ ?_)
      | (with_reducible refine LeO.bind ?_ (fun _ => ?_))
      | exact ih0 _ _ _ _ _ _ _
      | exact casketlaw15_same.mono _ _ _
      | exact chacha_Stream.mono _ _ _ _ _
      | exact LeO.none _
      | refine LeO.ite ?_ ?_
      | refine LeO.bind ?_ (fun _ => ?_)

theorem casketlaw15_ChachaBegins.mono : ∀ a0 a1 a2 a3 a4 k, LeO (casketlaw15_ChachaBegins.f k a0 a1 a2 a3 a4) (casketlaw15_ChachaBegins.f (k + 1) a0 a1 a2 a3 a4) := by
  intro a0 a1 a2 a3 a4 k
  have ih0 := casketlaw15_ChachaBegins.mono_l k
  unfold casketlaw15_ChachaBegins.f
  repeat' first
      | (with_reducible exact ih0 _ _ _ _ _ _ _)
      | (with_reducible exact casketlaw15_same.mono _ _ _)
      | (with_reducible exact chacha_Stream.mono _ _ _ _ _)
      | (with_reducible exact LeO.refl _)
      | (with_reducible exact LeO.none _)
      | (with_reducible refine LeO.ite ?_ ?_)
      | (with_reducible refine LeO.bind ?_ (fun _ => ?_))
      | exact ih0 _ _ _ _ _ _ _
      | exact casketlaw15_same.mono _ _ _
      | exact chacha_Stream.mono _ _ _ _ _
      | exact LeO.none _
      | refine LeO.ite ?_ ?_
      | refine LeO.bind ?_ (fun _ => ?_)

/-- THE ONE PURE STATEMENT of casketlaw15_ChachaBegins: yours. -/
def casketlaw15_ChachaBegins.Pure : Prop := ∀ (l0 : List Int) (a1 : Int) (l2 : List Int) (l3 : List Int) (a4 : Int), l0.length ≤ maxLen → l0.length * 1 ≤ 140737488351232 → (∀ x ∈ l0, (Lit.int .u8 x).wf = true) → (Lit.int .u32 a1).wf = true → l2.length ≤ maxLen → l2.length * 1 ≤ 140737488351232 → (∀ x ∈ l2, (Lit.int .u8 x).wf = true) → l3.length ≤ maxLen → l3.length * 1 ≤ 140737488351232 → (∀ x ∈ l3, (Lit.int .u8 x).wf = true) → (Lit.int .i64 a4).wf = true → ∃ k, casketlaw15_ChachaBegins.f k l0 a1 l2 l3 a4 = some true

end Go.Proofs.Ytllaobhheokafaa.Q
