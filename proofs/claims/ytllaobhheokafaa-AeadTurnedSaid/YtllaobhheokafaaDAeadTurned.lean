/- The pure functions (plain Lean over whole numbers and lists) of: casketlaw17_AeadTurned. -/
import Derived.Test.YtllaobhheokafaaWWords
import Derived.Test.YtllaobhheokafaaWAll
import Derived.Test.YtllaobhheokafaaDaead
import Derived.Test.YtllaobhheokafaaDref15
import Derived.Test.YtllaobhheokafaaDref17
namespace Go.Proofs.Ytllaobhheokafaa.Q
open Go.RowKit Go.Proofs.YtllaobhheokafaaW.PrintWords Go.Proofs.YtllaobhheokafaaW.PrintLast Go.Proofs.YtllaobhheokafaaW.PrintMore
attribute [local go_sem] max2_int min2_int max_two min_two max_three min_three max_four min_four   -- for this text's walks alone
set_option linter.unusedVariables false
set_option linter.unusedSimpArgs false

/-! ### casketlaw17_AeadTurned: function 18 -/
mutual
def casketlaw17_AeadTurned.j0 : Nat → List Int → List Int → List Int → List Int → Int → Int → Bool → Bool → Option (Bool)
  | 0, _, _, _, _, _, _, _, _ => none
  | k + 1, x0, x1, x2, x3, x4, x5, x13, x44 => if x44 = true then (some x13) else ((aead_Seal.f k x0 x1 x2 x3).bind fun bt452 => (if bt452.2 = 0 then (casketlaw17_AeadTurned.j1 k x0 x1 x2 x4 x5 x13 bt452.1 (decide ((bt452.1.length : Int) < 16))) else (casketlaw17_AeadTurned.j1 k x0 x1 x2 x4 x5 x13 bt452.1 true)))
def casketlaw17_AeadTurned.j1 : Nat → List Int → List Int → List Int → Int → Int → Bool → List Int → Bool → Option (Bool)
  | 0, _, _, _, _, _, _, _, _ => none
  | k + 1, x0, x1, x2, x4, x5, x13, x14, x60 => if x60 = true then (some false) else ((some (([] : List Int) : List Int)).bind fun y456 => (if y456.length + x14.length < 140737488355328 then ((some (y456 ++ x14 : List Int)).bind fun y459 => (if (y459.length : Int) = 0 then (none) else (if 0 ≤ (Int.tmod (Go.bits .and .i64 x4 65535) (y459.length : Int)) then (if (Int.tmod (Go.bits .and .i64 x4 65535) (y459.length : Int)) < (y459.length : Int) then ((some (y459.set ((Int.tmod (Go.bits .and .i64 x4 65535) (y459.length : Int)) : Int).toNat (Go.bits .xor .u8 (rd y459 (Int.tmod (Go.bits .and .i64 x4 65535) (y459.length : Int))) x5) : List Int)).bind fun y463 => (if 0 ≤ (wrap64 ((y459.length : Int) - 16)) then (if (wrap64 ((y459.length : Int) - 16)) ≤ (y459.length : Int) then ((casketref17_Tag.f k x0 x1 x2 (y463.take ((wrap64 ((y459.length : Int) - 16)) : Int).toNat)).bind fun t468 => ((casketlaw17_same.f k t468 (y463.drop ((wrap64 ((y459.length : Int) - 16)) : Int).toNat)).bind fun t475 => ((aead_Open.f k x0 x1 x2 y463).bind fun bt476 => ((some (([] : List Int) : List Int)).bind fun y480 => (if y480.length + x2.length < 140737488355328 then ((some (y480 ++ x2 : List Int)).bind fun y483 => (if y483.length < 140737488355328 then ((some (y483 ++ [x5] : List Int)).bind fun y486 => (if (wrap64 ((y459.length : Int) - 16)) ≤ (x14.length : Int) then ((casketref17_Tag.f k x0 x1 y486 (x14.take ((wrap64 ((y459.length : Int) - 16)) : Int).toNat)).bind fun t493 => ((casketlaw17_same.f k t493 (x14.drop ((wrap64 ((y459.length : Int) - 16)) : Int).toNat)).bind fun t500 => ((aead_Open.f k x0 x1 y486 x14).bind fun bt501 => (if x13 = true then (if ((bt476.2 == 0) == t475) = true then (if bt476.2 = 0 then (if ((bt501.2 == 0) == t500) = true then (if bt501.2 = 0 then (some true) else (some (bt501.2 == 5))) else (some false)) else (if bt476.2 = 5 then (if ((bt501.2 == 0) == t500) = true then (if bt501.2 = 0 then (some true) else (some (bt501.2 == 5))) else (some false)) else (some false))) else (some false)) else (some false))))) else (none))) else (none))) else (none)))))) else (none)) else (none))) else (none)) else (none)))) else (none)))
end
def casketlaw17_AeadTurned.f (k : Nat) (l0 : List Int) (l1 : List Int) (l2 : List Int) (l3 : List Int) (a4 : Int) (a5 : Int) : Option (Bool) := (casketlaw17_awake.f k).bind fun t451 => (if (l0.length : Int) = 32 then (if (l1.length : Int) = 12 then (if (l2.length : Int) > 300 then (casketlaw17_AeadTurned.j0 k l0 l1 l2 l3 a4 a5 t451 true) else (casketlaw17_AeadTurned.j0 k l0 l1 l2 l3 a4 a5 t451 (decide ((l3.length : Int) > 600)))) else (casketlaw17_AeadTurned.j0 k l0 l1 l2 l3 a4 a5 t451 true)) else (casketlaw17_AeadTurned.j0 k l0 l1 l2 l3 a4 a5 t451 true))
theorem casketlaw17_AeadTurned.mono_l : ∀ k, (∀ y0 y1 y2 y3 y4 y5 y6 y7, LeO (casketlaw17_AeadTurned.j0 k y0 y1 y2 y3 y4 y5 y6 y7) (casketlaw17_AeadTurned.j0 (k + 1) y0 y1 y2 y3 y4 y5 y6 y7)) ∧ (∀ y0 y1 y2 y3 y4 y5 y6 y7, LeO (casketlaw17_AeadTurned.j1 k y0 y1 y2 y3 y4 y5 y6 y7) (casketlaw17_AeadTurned.j1 (k + 1) y0 y1 y2 y3 y4 y5 y6 y7))
  | 0 => ⟨fun _ _ _ _ _ _ _ _ r h => by simp [casketlaw17_AeadTurned.j0] at h, fun _ _ _ _ _ _ _ _ r h => by simp [casketlaw17_AeadTurned.j1] at h⟩
  | k + 1 => by
    obtain ⟨ih0, ih1⟩ := casketlaw17_AeadTurned.mono_l k
    refine ⟨?_, ?_⟩
    · intro y0 y1 y2 y3 y4 y5 y6 y7
      unfold casketlaw17_AeadTurned.j0
      repeat' first
      | (with_reducible exact ih0 _ _ _ _ _ _ _ _)
      | (with_reducible exact ih1 _ _ _ _ _ _ _ _)
      | (with_reducible exact aead_Open.mono _ _ _ _ _)
      | (with_reducible exact aead_Seal.mono _ _ _ _ _)
      | (with_reducible exact casketlaw17_awake.mono _)
      | (with_reducible exact casketlaw17_same.mono _ _ _)
      | (with_reducible exact casketref17_Tag.mono _ _ _ _ _)
      | (with_reducible exact LeO.refl _)
      | (with_reducible exact LeO.none _)
      | (with_reducible refine LeO.ite ?_ ?_)
      | (with_reducible refine LeO.bind ?_ (fun _ => ?_))
      | exact ih0 _ _ _ _ _ _ _ _
      | exact ih1 _ _ _ _ _ _ _ _
      | exact aead_Open.mono _ _ _ _ _
      | exact aead_Seal.mono _ _ _ _ _
      | exact casketlaw17_awake.mono _
      | exact casketlaw17_same.mono _ _ _
      | exact casketref17_Tag.mono _ _ _ _ _
      | exact LeO.none _
      | refine LeO.ite ?_ ?_
      | refine LeO.bind ?_ (fun _ => ?_)
    · intro y0 y1 y2 y3 y4 y5 y6 y7
      unfold casketlaw17_AeadTurned.j1
      repeat' first
      | (with_reducible exact ih0 _ _ _ _ _ _ _ _)
      | (with_reducible exact ih1 _ _ _ _ _ _ _ _)
      | (with_reducible exact aead_Open.mono _ _ _ _ _)
      | (with_reducible exact aead_Seal.mono _ _ _ _ _)
      | (with_reducible exact casketlaw17_awake.mono _)
      | (with_reducible exact casketlaw17_same.mono _ _ _)
      | (with_reducible exact casketref17_Tag.mono _ _ _ _ _)
      | (with_reducible exact LeO.refl _)
      | (with_reducible exact LeO.none _)
      | (with_reducible refine LeO.ite ?_ ?_)
      | (with_reducible refine LeO.bind ?_ (fun _ => ?_))
      | exact ih0 _ _ _ _ _ _ _ _
      | exact ih1 _ _ _ _ _ _ _ _
      | exact aead_Open.mono _ _ _ _ _
      | exact aead_Seal.mono _ _ _ _ _
      | exact casketlaw17_awake.mono _
      | exact casketlaw17_same.mono _ _ _
      | exact casketref17_Tag.mono _ _ _ _ _
      | exact LeO.none _
      | refine LeO.ite ?_ ?_
      | refine LeO.bind ?_ (fun _ => ?_)
theorem casketlaw17_AeadTurned.mono : ∀ a0 a1 a2 a3 a4 a5 k, LeO (casketlaw17_AeadTurned.f k a0 a1 a2 a3 a4 a5) (casketlaw17_AeadTurned.f (k + 1) a0 a1 a2 a3 a4 a5) := by
  intro a0 a1 a2 a3 a4 a5 k
  obtain ⟨ih0, ih1⟩ := casketlaw17_AeadTurned.mono_l k
  unfold casketlaw17_AeadTurned.f
  repeat' first
      | (with_reducible exact ih0 _ _ _ _ _ _ _ _)
      | (with_reducible exact ih1 _ _ _ _ _ _ _ _)
      | (with_reducible exact aead_Open.mono _ _ _ _ _)
      | (with_reducible exact aead_Seal.mono _ _ _ _ _)
      | (with_reducible exact casketlaw17_awake.mono _)
      | (with_reducible exact casketlaw17_same.mono _ _ _)
      | (with_reducible exact casketref17_Tag.mono _ _ _ _ _)
      | (with_reducible exact LeO.refl _)
      | (with_reducible exact LeO.none _)
      | (with_reducible refine LeO.ite ?_ ?_)
      | (with_reducible refine LeO.bind ?_ (fun _ => ?_))
      | exact ih0 _ _ _ _ _ _ _ _
      | exact ih1 _ _ _ _ _ _ _ _
      | exact aead_Open.mono _ _ _ _ _
      | exact aead_Seal.mono _ _ _ _ _
      | exact casketlaw17_awake.mono _
      | exact casketlaw17_same.mono _ _ _
      | exact casketref17_Tag.mono _ _ _ _ _
      | exact LeO.none _
      | refine LeO.ite ?_ ?_
      | refine LeO.bind ?_ (fun _ => ?_)
/-- THE ONE PURE STATEMENT of casketlaw17_AeadTurned: yours. -/
def casketlaw17_AeadTurned.Pure : Prop := ∀ (l0 : List Int) (l1 : List Int) (l2 : List Int) (l3 : List Int) (a4 : Int) (a5 : Int), l0.length ≤ maxLen → l0.length * 1 ≤ 140737488351232 → (∀ x ∈ l0, (Lit.int .u8 x).wf = true) → l1.length ≤ maxLen → l1.length * 1 ≤ 140737488351232 → (∀ x ∈ l1, (Lit.int .u8 x).wf = true) → l2.length ≤ maxLen → l2.length * 1 ≤ 140737488351232 → (∀ x ∈ l2, (Lit.int .u8 x).wf = true) → l3.length ≤ maxLen → l3.length * 1 ≤ 140737488351232 → (∀ x ∈ l3, (Lit.int .u8 x).wf = true) → (Lit.int .i64 a4).wf = true → (Lit.int .u8 a5).wf = true → ∃ k, casketlaw17_AeadTurned.f k l0 l1 l2 l3 a4 a5 = some true

end Go.Proofs.Ytllaobhheokafaa.Q
