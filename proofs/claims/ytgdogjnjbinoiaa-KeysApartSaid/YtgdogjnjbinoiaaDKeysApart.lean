/- The pure functions (plain Lean over whole numbers and lists) of: casketlaw18_KeysApart. -/
import Derived.Test.YtgdogjnjbinoiaaWWords
import Derived.Test.YtgdogjnjbinoiaaWAll
import Derived.Test.YtgdogjnjbinoiaaDhmac
import Derived.Test.YtgdogjnjbinoiaaDkeys
import Derived.Test.YtgdogjnjbinoiaaDref13
namespace Go.Proofs.Ytgdogjnjbinoiaa.Q
open Go.RowKit Go.Proofs.YtgdogjnjbinoiaaW.PrintWords Go.Proofs.YtgdogjnjbinoiaaW.PrintLast Go.Proofs.YtgdogjnjbinoiaaW.PrintMore
attribute [local go_sem] max2_int min2_int max_two min_two max_three min_three max_four min_four   -- for this text's walks alone
set_option linter.unusedVariables false
set_option linter.unusedSimpArgs false

/-! ### casketlaw18_KeysApart: function 16 -/
mutual

def casketlaw18_KeysApart.j0 : Nat → List Int → Int → ByteArray → Int → ByteArray → Bool → Bool → Option (Bool)
  | 0, _, _, _, _, _, _, _ => none
  | k + 1, x0, x1, x2, x3, x4, x11, x31 => if x31 = true then (some x11) else ((keys_Derive.f x0 x1 x2).bind fun bt696 => ((keys_Derive.f x0 x3 x4).bind fun bt700 => (if bt696.2 = 0 then (casketlaw18_KeysApart.j1 k x0 x1 x2 x3 x4 x11 bt696.1 bt700.1 (bt700.2 != 0)) else (casketlaw18_KeysApart.j1 k x0 x1 x2 x3 x4 x11 bt696.1 bt700.1 true))))

def casketlaw18_KeysApart.j1 : Nat → List Int → Int → ByteArray → Int → ByteArray → Bool → List Int → List Int → Bool → Option (Bool)
  | 0, _, _, _, _, _, _, _, _, _ => none
  | k + 1, x0, x1, x2, x3, x4, x11, x12, x14, x52 => if x52 = true then (some false) else ((some (([x1, ((x2.size : Int)) % 256] : List Int) : List Int)).bind fun y704 => ((some (([] : List Int) : List Int)).bind fun y707 => (if y707.length + x2.size < 140737488355328 then ((some (y707 ++ bytesOf x2 : List Int)).bind fun y710 => (if y710.length < 140737488355328 then ((some (y710 ++ [1] : List Int)).bind fun y713 => (if y704.length + y713.length < 140737488355328 then ((some (y704 ++ y713 : List Int)).bind fun y716 => ((some (([x3, ((x4.size : Int)) % 256] : List Int) : List Int)).bind fun y719 => ((some (([] : List Int) : List Int)).bind fun y722 => (if y722.length + x4.size < 140737488355328 then ((some (y722 ++ bytesOf x4 : List Int)).bind fun y725 => (if y725.length < 140737488355328 then ((some (y725 ++ [1] : List Int)).bind fun y728 => (if y719.length + y728.length < 140737488355328 then ((some (y719 ++ y728 : List Int)).bind fun y731 => ((casketlaw18_same.f k y716 y731).bind fun t734 => (if x1 = x3 then (casketlaw18_KeysApart.j2 k x0 x11 x12 x14 y716 y731 (t734 != (x2.toList == x4.toList))) else (casketlaw18_KeysApart.j2 k x0 x11 x12 x14 y716 y731 (t734 != false))))) else (none))) else (none))) else (none))))) else (none))) else (none))) else (none))))

def casketlaw18_KeysApart.j2 : Nat → List Int → Bool → List Int → List Int → List Int → List Int → Bool → Option (Bool)
  | 0, _, _, _, _, _, _, _ => none
  | k + 1, x0, x11, x12, x14, x16, x17, x84 => if x84 = true then (some false) else (if x11 = true then ((hmac_MAC.f x0 x16).bind fun t735 => ((casketlaw18_same.f k x12 t735).bind fun t738 => (if t738 = true then ((hmac_MAC.f x0 x17).bind fun t739 => ((casketlaw18_same.f k x14 t739).bind fun t742 => (some t742))) else (some false)))) else (some false))
end

def casketlaw18_KeysApart.f (k : Nat) (l0 : List Int) (a1 : Int) (a2 : ByteArray) (a3 : Int) (a4 : ByteArray) : Option (Bool) := (casketlaw18_awake.f k).bind fun t695 => (if (l0.length : Int) = 32 then (if (a2.size : Int) > 64 then (casketlaw18_KeysApart.j0 k l0 a1 a2 a3 a4 t695 true) else (casketlaw18_KeysApart.j0 k l0 a1 a2 a3 a4 t695 (decide ((a4.size : Int) > 64)))) else (casketlaw18_KeysApart.j0 k l0 a1 a2 a3 a4 t695 true))

theorem casketlaw18_KeysApart.mono_l : ∀ k, (∀ y0 y1 y2 y3 y4 y5 y6, LeO (casketlaw18_KeysApart.j0 k y0 y1 y2 y3 y4 y5 y6) (casketlaw18_KeysApart.j0 (k + 1) y0 y1 y2 y3 y4 y5 y6)) ∧ (∀ y0 y1 y2 y3 y4 y5 y6 y7 y8, LeO (casketlaw18_KeysApart.j1 k y0 y1 y2 y3 y4 y5 y6 y7 y8) (casketlaw18_KeysApart.j1 (k + 1) y0 y1 y2 y3 y4 y5 y6 y7 y8)) ∧ (∀ y0 y1 y2 y3 y4 y5 y6, LeO (casketlaw18_KeysApart.j2 k y0 y1 y2 y3 y4 y5 y6) (casketlaw18_KeysApart.j2 (k + 1) y0 y1 y2 y3 y4 y5 y6))
  | 0 => ⟨fun _ _ _ _ _ _ _ r h => by simp [casketlaw18_KeysApart.j0] at h, fun _ _ _ _ _ _ _ _ _ r h => by simp [casketlaw18_KeysApart.j1] at h, fun _ _ _ _ _ _ _ r h => by simp [casketlaw18_KeysApart.j2] at h⟩
  | k + 1 => by
    obtain ⟨ih0, ih1, ih2⟩ := casketlaw18_KeysApart.mono_l k
    refine ⟨?_, ?_, ?_⟩
    · intro y0 y1 y2 y3 y4 y5 y6
      unfold casketlaw18_KeysApart.j0
      repeat' first
      | (with_reducible exact ih0 _ _ _ _ _ _ _)
      | (with_reducible exact ih1 _ _ _ _ _ _ _ _ _)
      | (with_reducible exact ih2 _ _ _ _ _ _ _)
      | (with_reducible exact casketlaw18_awake.mono _)
      | (with_reducible exact casketlaw18_same.mono _ _ _)
      | (with_reducible exact LeO.refl _)
      | (with_reducible exact LeO.none _)
      | (with_reducible refine LeO.ite ?_ ?_)
      | (with_reducible refine LeO.bind ?_ (fun _ => ?_))
      | exact ih0 _ _ _ _ _ _ _
      | exact ih1 _ _ _ _ _ _ _ _ _
      | exact ih2 _ _ _ _ _ _ _
      | exact casketlaw18_awake.mono _
      | exact casketlaw18_same.mono _ _ _
      | exact LeO.none _
      | refine LeO.ite ?_ ?_
      | refine LeO.bind ?_ (fun _ => ?_)
    · intro y0 y1 y2 y3 y4 y5 y6 y7 y8
      unfold casketlaw18_KeysApart.j1
      repeat' first
      | (with_reducible exact ih0 _ _ _ _ _ _ _)
      | (with_reducible exact ih1 _ _ _ _ _ _ _ _ _)
      | (with_reducible exact ih2 _ _ _ _ _ _ _)
      | (with_reducible exact casketlaw18_awake.mono _)
      | (with_reducible exact casketlaw18_same.mono _ _ _)
      | (with_reducible exact LeO.refl _)
      | (with_reducible exact LeO.none _)
      | (with_reducible refine LeO.ite ?_ ?_)
      | (with_reducible refine LeO.bind ?_ (fun _ => ?_))
      | exact ih0 _ _ _ _ _ _ _
      | exact ih1 _ _ _ _ _ _ _ _ _
      | exact ih2 _ _ _ _ _ _ _
      | exact casketlaw18_awake.mono _
      | exact casketlaw18_same.mono _ _ _
      | exact LeO.none _
      | refine LeO.ite ?_ ?_
      | refine LeO.bind ?_ (fun _ => ?_)
    · intro y0 y1 y2 y3 y4 y5 y6
      unfold casketlaw18_KeysApart.j2
      repeat' first
      | (with_reducible exact ih0 _ _ _ _ _ _ _)
      | (with_reducible exact ih1 _ _ _ _ _ _ _ _ _)
      | (with_reducible exact ih2 _ _ _ _ _ _ _)
      | (with_reducible exact casketlaw18_awake.mono _)
      | (with_reducible exact casketlaw18_same.mono _ _ _)
      | (with_reducible exact LeO.refl _)
      | (with_reducible exact LeO.none _)
      | (with_reducible refine LeO.ite ?_ ?_)
      | (with_reducible refine LeO.bind ?_ (fun _ => ?_))
      | exact ih0 _ _ _ _ _ _ _
      | exact ih1 _ _ _ _ _ _ _ _ _
      | exact ih2 _ _ _ _ _ _ _
      | exact casketlaw18_awake.mono _
      | exact casketlaw18_same.mono _ _ _
      | exact LeO.none _
      | refine LeO.ite ?_ ?_
      | refine LeO.bind ?_ (fun _ => ?_)

theorem casketlaw18_KeysApart.mono : ∀ a0 a1 a2 a3 a4 k, LeO (casketlaw18_KeysApart.f k a0 a1 a2 a3 a4) (casketlaw18_KeysApart.f (k + 1) a0 a1 a2 a3 a4) := by
  intro a0 a1 a2 a3 a4 k
  obtain ⟨ih0, ih1, ih2⟩ := casketlaw18_KeysApart.mono_l k
  unfold casketlaw18_KeysApart.f
  repeat' first
      | (with_reducible exact ih0 _ _ _ _ _ _ _)
      | (with_reducible exact ih1 _ _ _ _ _ _ _ _ _)
      | (with_reducible exact ih2 _ _ _ _ _ _ _)
      | (with_reducible exact casketlaw18_awake.mono _)
      | (with_reducible exact casketlaw18_same.mono _ _ _)
      | (with_reducible exact LeO.refl _)
      | (with_reducible exact LeO.none _)
      | (with_reducible refine LeO.ite ?_ ?_)
      | (with_reducible refine LeO.bind ?_ (fun _ => ?_))
      | exact ih0 _ _ _ _ _ _ _
      | exact ih1 _ _ _ _ _ _ _ _ _
      | exact ih2 _ _ _ _ _ _ _
      | exact casketlaw18_awake.mono _
      | exact casketlaw18_same.mono _ _ _
      | exact LeO.none _
      | refine LeO.ite ?_ ?_
      | refine LeO.bind ?_ (fun _ => ?_)

/-- THE ONE PURE STATEMENT of casketlaw18_KeysApart: yours. -/
def casketlaw18_KeysApart.Pure : Prop := ∀ (l0 : List Int) (a1 : Int) (a2 : ByteArray) (a3 : Int) (a4 : ByteArray), l0.length ≤ maxLen → l0.length * 1 ≤ 140737488351232 → (∀ x ∈ l0, (Lit.int .u8 x).wf = true) → (Lit.int .u8 a1).wf = true → a2.size ≤ 140737488351232 → (Lit.int .u8 a3).wf = true → a4.size ≤ 140737488351232 → ∃ k, casketlaw18_KeysApart.f k l0 a1 a2 a3 a4 = some true

end Go.Proofs.Ytgdogjnjbinoiaa.Q
