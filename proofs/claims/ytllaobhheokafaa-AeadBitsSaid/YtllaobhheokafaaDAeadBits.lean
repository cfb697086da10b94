/- The pure functions (plain Lean over whole numbers and lists) of: casketlaw17_AeadBits. -/
import Derived.Test.YtllaobhheokafaaWWords
import Derived.Test.YtllaobhheokafaaWAll
import Derived.Test.YtllaobhheokafaaDaead
namespace Go.Proofs.Ytllaobhheokafaa.Q
open Go.RowKit Go.Proofs.YtllaobhheokafaaW.PrintWords Go.Proofs.YtllaobhheokafaaW.PrintLast Go.Proofs.YtllaobhheokafaaW.PrintMore
attribute [local go_sem] max2_int min2_int max_two min_two max_three min_three max_four min_four   -- for this text's walks alone
set_option linter.unusedVariables false
set_option linter.unusedSimpArgs false

/-! ### casketlaw17_AeadBits: function 19 -/
mutual

def casketlaw17_AeadBits.j0 : Nat → List Int → List Int → List Int → List Int → List Int → Bool → Bool → Option (Bool)
  | 0, _, _, _, _, _, _, _ => none
  | k + 1, x0, x1, x2, x3, x4, x11, x30 => if x30 = true then (some x11) else ((aead_Seal.f k x0 x1 x2 x3).bind fun bt799 => ((aead_Seal.f k x0 x1 x2 x4).bind fun bt803 => (if bt799.2 = 0 then (casketlaw17_AeadBits.j1 k x3 x4 x11 bt799.1 bt799.2 bt803.1 bt803.2 (bt803.2 != 0)) else (casketlaw17_AeadBits.j1 k x3 x4 x11 bt799.1 bt799.2 bt803.1 bt803.2 true))))

def casketlaw17_AeadBits.j1 : Nat → List Int → List Int → Bool → List Int → Int → List Int → Int → Bool → Option (Bool)
  | 0, _, _, _, _, _, _, _, _ => none
  | k + 1, x3, x4, x11, x12, x13, x14, x15, x53 => if x53 = true then (if x11 = true then (some (x13 == x15)) else (some false)) else (if (x12.length : Int) = (wrap64 ((x3.length : Int) + 16)) then (casketlaw17_AeadBits.j2 k x3 x4 x11 x12 x14 ((x14.length : Int) != (wrap64 ((x4.length : Int) + 16)))) else (casketlaw17_AeadBits.j2 k x3 x4 x11 x12 x14 true))

def casketlaw17_AeadBits.j2 : Nat → List Int → List Int → Bool → List Int → List Int → Bool → Option (Bool)
  | 0, _, _, _, _, _, _ => none
  | k + 1, x3, x4, x11, x12, x14, x73 => if x73 = true then (some false) else (casketlaw17_AeadBits.l0 k x3 x4 x11 x12 x14 0)

def casketlaw17_AeadBits.l0 : Nat → List Int → List Int → Bool → List Int → List Int → Int → Option (Bool)
  | 0, _, _, _, _, _, _ => none
  | k + 1, x3, x4, x11, x12, x14, x16 => if x16 < (x3.length : Int) then (casketlaw17_AeadBits.j4 k x3 x4 x11 x12 x14 x16 (decide (x16 < (x4.length : Int)))) else (casketlaw17_AeadBits.j4 k x3 x4 x11 x12 x14 x16 false)

def casketlaw17_AeadBits.j4 : Nat → List Int → List Int → Bool → List Int → List Int → Int → Bool → Option (Bool)
  | 0, _, _, _, _, _, _, _ => none
  | k + 1, x3, x4, x11, x12, x14, x16, x83 => if x83 = true then (if 0 ≤ x16 then (if x16 < (x12.length : Int) then (if x16 < (x14.length : Int) then (if x16 < (x3.length : Int) then (if x16 < (x4.length : Int) then (if (Go.bits .xor .u8 (rd x12 x16) (rd x14 x16)) = (Go.bits .xor .u8 (rd x3 x16) (rd x4 x16)) then (casketlaw17_AeadBits.l0 k x3 x4 x11 x12 x14 (wrap64 (x16 + 1))) else (some false)) else (none)) else (none)) else (none)) else (none)) else (none)) else (some x11)
end

def casketlaw17_AeadBits.f (k : Nat) (l0 : List Int) (l1 : List Int) (l2 : List Int) (l3 : List Int) (l4 : List Int) : Option (Bool) := (casketlaw17_awake.f k).bind fun t798 => (if (l2.length : Int) > 300 then (casketlaw17_AeadBits.j0 k l0 l1 l2 l3 l4 t798 true) else (if (l3.length : Int) > 600 then (casketlaw17_AeadBits.j0 k l0 l1 l2 l3 l4 t798 true) else (casketlaw17_AeadBits.j0 k l0 l1 l2 l3 l4 t798 (decide ((l4.length : Int) > 600)))))

theorem casketlaw17_AeadBits.mono_l : ∀ k, (∀ y0 y1 y2 y3 y4 y5 y6, LeO (casketlaw17_AeadBits.j0 k y0 y1 y2 y3 y4 y5 y6) (casketlaw17_AeadBits.j0 (k + 1) y0 y1 y2 y3 y4 y5 y6)) ∧ (∀ y0 y1 y2 y3 y4 y5 y6 y7, LeO (casketlaw17_AeadBits.j1 k y0 y1 y2 y3 y4 y5 y6 y7) (casketlaw17_AeadBits.j1 (k + 1) y0 y1 y2 y3 y4 y5 y6 y7)) ∧ (∀ y0 y1 y2 y3 y4 y5, LeO (casketlaw17_AeadBits.j2 k y0 y1 y2 y3 y4 y5) (casketlaw17_AeadBits.j2 (k + 1) y0 y1 y2 y3 y4 y5)) ∧ (∀ y0 y1 y2 y3 y4 y5, LeO (casketlaw17_AeadBits.l0 k y0 y1 y2 y3 y4 y5) (casketlaw17_AeadBits.l0 (k + 1) y0 y1 y2 y3 y4 y5)) ∧ (∀ y0 y1 y2 y3 y4 y5 y6, LeO (casketlaw17_AeadBits.j4 k y0 y1 y2 y3 y4 y5 y6) (casketlaw17_AeadBits.j4 (k + 1) y0 y1 y2 y3 y4 y5 y6))
  | 0 => ⟨fun _ _ _ _ _ _ _ r h => by simp [casketlaw17_AeadBits.j0] at h, fun _ _ _ _ _ _ _ _ r h => by simp [casketlaw17_AeadBits.j1] at h, fun _ _ _ _ _ _ r h => by simp [casketlaw17_AeadBits.j2] at h, fun _ _ _ _ _ _ r h => by simp [casketlaw17_AeadBits.l0] at h, fun _ _ _ _ _ _ _ r h => by simp [casketlaw17_AeadBits.j4] at h⟩
  | k + 1 => by
    obtain ⟨ih0, ih1, ih2, ih3, ih4⟩ := casketlaw17_AeadBits.mono_l k
    refine ⟨?_, ?_, ?_, ?_, ?_⟩
    · intro y0 y1 y2 y3 y4 y5 y6
      unfold casketlaw17_AeadBits.j0
      repeat' first
      | (with_reducible exact ih0 _ _ _ _ _ _ _)
      | (with_reducible exact ih1 _ _ _ _ _ _ _ _)
      | (with_reducible exact ih2 _ _ _ _ _ _)
      | (with_reducible exact ih3 _ _ _ _ _ _)
      | (with_reducible exact ih4 _ _ _ _ _ _ _)
      | (with_reducible exact aead_Seal.mono _ _ _ _ _)
      | (with_reducible exact casketlaw17_awake.mono _)
      | (with_reducible exact LeO.refl _)
      | (with_reducible exact LeO.none _)
      | (with_reducible refine LeO.ite ?_ ?_)
      | (with_reducible refine LeO.bind ?_ (fun _ => ?_))
      | exact ih0 _ _ _ _ _ _ _
      | exact ih1 _ _ _ _ _ _ _ _
      | exact ih2 _ _ _ _ _ _
      | exact ih3 _ _ _ _ _ _
      | exact ih4 _ _ _ _ _ _ _
      | exact aead_Seal.mono _ _ _ _ _
      | exact casketlaw17_awake.mono _
      | exact LeO.none _
      | refine LeO.ite ?_ ?_
      | refine LeO.bind ?_ (fun _ => ?_)
    · intro y0 y1 y2 y3 y4 y5 y6 y7
      unfold casketlaw17_AeadBits.j1
      repeat' first
      | (with_reducible exact ih0 _ _ _ _ _ _ _)
      | (with_reducible exact ih1 _ _ _ _ _ _ _ _)
      | (with_reducible exact ih2 _ _ _ _ _ _)
      | (with_reducible exact ih3 _ _ _ _ _ _)
      | (with_reducible exact ih4 _ _ _ _ _ _ _)
      | (with_reducible exact aead_Seal.mono _ _ _ _ _)
      | (with_reducible exact casketlaw17_awake.mono _)
      | (with_reducible exact LeO.refl _)
      | (with_reducible exact LeO.none _)
      | (with_reducible refine LeO.ite ?_ ?_)
      | (with_reducible refine LeO.bind ?_ (fun _ => ?_))
      | exact ih0 _ _ _ _ _ _ _
      | exact ih1 _ _ _ _ _ _ _ _
      | exact ih2 _ _ _ _ _ _
      | exact ih3 _ _ _ _ _ _
      | exact ih4 _ _ _ _ _ _ _
      | exact aead_Seal.mono _ _ _ _ _
      | exact casketlaw17_awake.mono _
      | exact LeO.none _
      | refine LeO.ite ?_ ?_
      | refine LeO.bind ?_ (fun _ => ?_)
    · intro y0 y1 y2 y3 y4 y5
      unfold casketlaw17_AeadBits.j2
      repeat' first
      | (with_reducible exact ih0 _ _ _ _ _ _ _)
      | (with_reducible exact ih1 _ _ _ _ _ _ _ _)
      | (with_reducible exact ih2 _ _ _ _ _ _)
      | (with_reducible exact ih3 _ _ _ _ _ _)
      | (with_reducible exact ih4 _ _ _ _ _ _ _)
      | (with_reducible exact aead_Seal.mono _ _ _ _ _)
      | (with_reducible exact casketlaw17_awake.mono _)
      | (with_reducible exact LeO.refl _)
      | (with_reducible exact LeO.none _)
      | (with_reducible refine LeO.ite ?_ ?_)
      | (with_reducible refine LeO.bind ?_ (fun _ => ?_))
      | exact ih0 _ _ _ _ _ _ _
      | exact ih1 _ _ _ _ _ _ _ _
      | exact ih2 _ _ _ _ _ _
      | exact ih3 _ _ _ _ _ _
      | exact ih4 _ _ _ _ _ _ _
      | exact aead_Seal.mono _ _ _ _ _
      | exact casketlaw17_awake.mono _
      | exact LeO.none _
      | refine LeO.ite ?_ ?_
      | refine LeO.bind ?_ (fun _ => ?_)
    · intro y0 y1 y2 y3 y4 y5
      unfold casketlaw17_AeadBits.l0
      repeat' first
      | (with_reducible exact ih0 _ _ _ _ _ _ _)
      | (with_reducible exact ih1 _ _ _ _ _ _ _ _)
      | (with_reducible exact ih2 _ _ _ _ _ _)
      | (with_reducible exact ih3 _ _ _ _ _ _)
      | (with_reducible exact ih4 _ _ _ _ _ _ _)
      | (with_reducible exact aead_Seal.mono _ _ _ _ _)
      | (with_reducible exact casketlaw17_awake.mono _)
      | (with_reducible exact LeO.refl _)
      | (with_reducible exact LeO.none _)
      | (with_reducible refine LeO.ite ?_ ?_)
      | (with_reducible refine LeO.bind ?_ (fun _ => ?_))
      | exact ih0 _ _ _ _ _ _ _
      | exact ih1 _ _ _ _ _ _ _ _
      | exact ih2 _ _ _ _ _ _
      | exact ih3 _ _ _ _ _ _
      | exact ih4 _ _ _ _ _ _ _
      | exact aead_Seal.mono _ _ _ _ _
      | exact casketlaw17_awake.mono _
      | exact LeO.none _
      | refine LeO.ite ?_ ?_
      | refine LeO.bind ?_ (fun _ => ?_)
    · intro y0 y1 y2 y3 y4 y5 y6
      unfold casketlaw17_AeadBits.j4
      repeat' first
      | (with_reducible exact ih0 _ _ _ _ _ _ _)
      | (with_reducible exact ih1 _ _ _ _ _ _ _ _)
      | (with_reducible exact ih2 _ _ _ _ _ _)
      | (with_reducible exact ih3 _ _ _ _ _ _)
      | (with_reducible exact ih4 _ _ _ _ _ _ _)
      | (with_reducible exact aead_Seal.mono _ _ _ _ _)
      | (with_reducible exact casketlaw17_awake.mono _)
      | (with_reducible exact LeO.refl _)
      | (with_reducible exact LeO.none _)
      | (with_reducible refine LeO.ite ?_ ?_)
      | (with_reducible refine LeO.bind ?_ (fun _ => ?_))
      | exact ih0 _ _ _ _ _ _ _
      | exact ih1 _ _ _ _ _ _ _ _
      | exact ih2 _ _ _ _ _ _
      | exact ih3 _ _ _ _ _ _
      | exact ih4 _ _ _ _ _ _ _
      | exact aead_Seal.mono _ _ _ _ _
      | exact casketlaw17_awake.mono _
      | exact LeO.none _
      | refine LeO.ite ?_ ?_
      | refine LeO.bind ?_ (fun _ => ?_)

theorem casketlaw17_AeadBits.mono : ∀ a0 a1 a2 a3 a4 k, LeO (casketlaw17_AeadBits.f k a0 a1 a2 a3 a4) (casketlaw17_AeadBits.f (k + 1) a0 a1 a2 a3 a4) := by
  intro a0 a1 a2 a3 a4 k
  obtain ⟨ih0, ih1, ih2, ih3, ih4⟩ := casketlaw17_AeadBits.mono_l k
  unfold casketlaw17_AeadBits.f
  repeat' first
      | (with_reducible exact ih0 _ _ _ _ _ _ _)
      | (with_reducible exact ih1 _ _ _ _ _ _ _ _)
      | (with_reducible exact ih2 _ _ _ _ _ _)
      | (with_reducible exact ih3 _ _ _ _ _ _)
      | (with_reducible exact ih4 _ _ _ _ _ _ _)
      | (with_reducible exact aead_Seal.mono _ _ _ _ _)
      | (with_reducible exact casketlaw17_awake.mono _)
      | (with_reducible exact LeO.refl _)
      | (with_reducible exact LeO.none _)
      | (with_reducible refine LeO.ite ?_ ?_)
      | (with_reducible refine LeO.bind ?_ (fun _ => ?_))
      | exact ih0 _ _ _ _ _ _ _
      | exact ih1 _ _ _ _ _ _ _ _
      | exact ih2 _ _ _ _ _ _
      | exact ih3 _ _ _ _ _ _
      | exact ih4 _ _ _ _ _ _ _
      | exact aead_Seal.mono _ _ _ _ _
      | exact casketlaw17_awake.mono _
      | exact LeO.none _
      | refine LeO.ite ?_ ?_
      | refine LeO.bind ?_ (fun _ => ?_)

/-- THE ONE PURE STATEMENT of casketlaw17_AeadBits: yours. -/
def casketlaw17_AeadBits.Pure : Prop := ∀ (l0 : List Int) (l1 : List Int) (l2 : List Int) (l3 : List Int) (l4 : List Int), l0.length ≤ maxLen → l0.length * 1 ≤ 140737488351232 → (∀ x ∈ l0, (Lit.int .u8 x).wf = true) → l1.length ≤ maxLen → l1.length * 1 ≤ 140737488351232 → (∀ x ∈ l1, (Lit.int .u8 x).wf = true) → l2.length ≤ maxLen → l2.length * 1 ≤ 140737488351232 → (∀ x ∈ l2, (Lit.int .u8 x).wf = true) → l3.length ≤ maxLen → l3.length * 1 ≤ 140737488351232 → (∀ x ∈ l3, (Lit.int .u8 x).wf = true) → l4.length ≤ maxLen → l4.length * 1 ≤ 140737488351232 → (∀ x ∈ l4, (Lit.int .u8 x).wf = true) → ∃ k, casketlaw17_AeadBits.f k l0 l1 l2 l3 l4 = some true

end Go.Proofs.Ytllaobhheokafaa.Q
