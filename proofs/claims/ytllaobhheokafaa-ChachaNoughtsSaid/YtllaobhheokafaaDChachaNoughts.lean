/- The pure functions (plain Lean over whole numbers and lists) of: casketlaw15_ChachaNoughts. -/
import Derived.Test.YtllaobhheokafaaWWords
import Derived.Test.YtllaobhheokafaaWLast
import Derived.Test.YtllaobhheokafaaWMore
import Derived.Test.YtllaobhheokafaaDchacha
import Derived.Test.YtllaobhheokafaaDref15
namespace Go.Proofs.Ytllaobhheokafaa.Q
open Go.RowKit Go.Proofs.YtllaobhheokafaaW.PrintWords Go.Proofs.YtllaobhheokafaaW.PrintLast Go.Proofs.YtllaobhheokafaaW.PrintMore
attribute [local go_sem] max2_int min2_int max_two min_two max_three min_three max_four min_four   -- for this text's walks alone
set_option linter.unusedVariables false
set_option linter.unusedSimpArgs false

/-! ### casketlaw15_ChachaNoughts: function 8 -/
def casketlaw15_ChachaNoughts.l0 : Nat → List Int → Int → List Int → Bool → Int → List Int → List Int → Int → Option (Bool)
  | 0, _, _, _, _, _, _, _, _ => none
  | k + 1, x0, x1, x2, x9, x10, x11, x13, x14 => if (x13.length : Int) < x10 then ((chacha_Block.f x0 ((x1 + x14) % 4294967296) x2).bind fun bt273 => (if bt273.2 = 0 then (if (bt273.1.length : Int) = 64 then (if x13.length + bt273.1.length < 140737488355328 then (casketlaw15_ChachaNoughts.l0 k x0 x1 x2 x9 x10 x11 (x13 ++ bt273.1) ((x14 + 1) % 4294967296)) else (none)) else (some false)) else (some false))) else (if x9 = true then (if (x11.length : Int) = x10 then (if 0 ≤ x10 then (if x10 ≤ (x13.length : Int) then ((casketlaw15_same.f k x11 (x13.take (x10 : Int).toNat)).bind fun t284 => (some t284)) else (none)) else (none)) else (some false)) else (some false))

def casketlaw15_ChachaNoughts.f (k : Nat) (l0 : List Int) (a1 : Int) (l2 : List Int) (a3 : Int) : Option (Bool) := (casketlaw15_awake.f).bind fun t265 => (if 0 ≤ (Go.bits .and .i64 a3 255) then (if (Go.bits .and .i64 a3 255 : Int).toNat ≤ 281474976710656 then ((chacha_Stream.f k l0 a1 l2 (List.replicate (Go.bits .and .i64 a3 255 : Int).toNat 0)).bind fun bt269 => (if bt269.2 = 0 then (casketlaw15_ChachaNoughts.l0 k l0 a1 l2 t265 (Go.bits .and .i64 a3 255) bt269.1 ([] : List Int) 0) else (if t265 = true then (some ((bt269.1.length : Int) == 0)) else (some false)))) else (none)) else (none))

theorem casketlaw15_ChachaNoughts.mono_l : ∀ k, (∀ y0 y1 y2 y3 y4 y5 y6 y7, LeO (casketlaw15_ChachaNoughts.l0 k y0 y1 y2 y3 y4 y5 y6 y7) (casketlaw15_ChachaNoughts.l0 (k + 1) y0 y1 y2 y3 y4 y5 y6 y7))
  | 0 => fun _ _ _ _ _ _ _ _ r h => by simp [casketlaw15_ChachaNoughts.l0] at h
  | k + 1 => by
    have ih0 := casketlaw15_ChachaNoughts.mono_l k
    · intro y0 y1 y2 y3 y4 y5 y6 y7
      unfold casketlaw15_ChachaNoughts.l0
      repeat' first
      | (with_reducible exact ih0 _ _ _ _ _ _ _ _)
      | (with_reducible exact casketlaw15_same.mono _ _ _)
      | (with_reducible exact chacha_Stream.mono _ _ _ _ _)
      | (with_reducible exact LeO.refl _)
      | (with_reducible exact LeO.none _)
      | (with_reducible refine LeO.ite ?_ ?_)
      | (with_reducible refine LeO.bind ?_ (fun _ => ?_))
      | exact ih0 _ _ _ _ _ _ _ _
      | exact casketlaw15_same.mono _ _ _
      | exact chacha_Stream.mono _ _ _ _ _
      | exact LeO.none _
      | refine LeO.ite ?_ ?_
      | refine LeO.bind ?_ (fun _ => ?_)

theorem casketlaw15_ChachaNoughts.mono : ∀ a0 a1 a2 a3 k, LeO (casketlaw15_ChachaNoughts.f k a0 a1 a2 a3) (casketlaw15_ChachaNoughts.f (k + 1) a0 a1 a2 a3) := by
  intro a0 a1 a2 a3 k
  have ih0 := casketlaw15_ChachaNoughts.mono_l k
  unfold casketlaw15_ChachaNoughts.f
  repeat' first
      | (with_reducible exact ih0 _ _ _ _ _ _ _ _)
      | (with_reducible exact casketlaw15_same.mono _ _ _)
      | (with_reducible exact chacha_Stream.mono _ _ _ _ _)
      | (with_reducible exact LeO.refl _)
      | (with_reducible exact LeO.none _)
      | (with_reducible refine LeO.ite ?_ ?_)
      | (with_reducible refine LeO.bind ?_ (fun _ => ?_))
      | exact ih0 _ _ _ _ _ _ _ _
      | exact casketlaw15_same.mono _ _ _
      | exact chacha_Stream.mono _ _ _ _ _
      | exact LeO.none _
      | refine LeO.ite ?_ ?_
      | refine LeO.bind ?_ (fun _ => ?_)

/-- THE ONE PURE STATEMENT of casketlaw15_ChachaNoughts: yours. -/
def casketlaw15_ChachaNoughts.Pure : Prop := ∀ (l0 : List Int) (a1 : Int) (l2 : List Int) (a3 : Int), l0.length ≤ maxLen → l0.length * 1 ≤ 140737488351232 → (∀ x ∈ l0, (Lit.int .u8 x).wf = true) → (Lit.int .u32 a1).wf = true → l2.length ≤ maxLen → l2.length * 1 ≤ 140737488351232 → (∀ x ∈ l2, (Lit.int .u8 x).wf = true) → (Lit.int .i64 a3).wf = true → ∃ k, casketlaw15_ChachaNoughts.f k l0 a1 l2 a3 = some true

end Go.Proofs.Ytllaobhheokafaa.Q
