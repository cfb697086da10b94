/- The pure functions (plain Lean over whole numbers and lists) of: casketlaw18_KeysTree. -/
import Derived.Test.YtgdogjnjbinoiaaWWords
import Derived.Test.YtgdogjnjbinoiaaWAll
import Derived.Test.YtgdogjnjbinoiaaDkeys
import Derived.Test.YtgdogjnjbinoiaaDref13
import Derived.Test.YtgdogjnjbinoiaaDref18
namespace Go.Proofs.Ytgdogjnjbinoiaa.Q
open Go.RowKit Go.Proofs.YtgdogjnjbinoiaaW.PrintWords Go.Proofs.YtgdogjnjbinoiaaW.PrintLast Go.Proofs.YtgdogjnjbinoiaaW.PrintMore
attribute [local go_sem] max2_int min2_int max_two min_two max_three min_three max_four min_four   -- for this text's walks alone
set_option linter.unusedVariables false
set_option linter.unusedSimpArgs false

/-! ### casketlaw18_KeysTree: function 18 -/
mutual

def casketlaw18_KeysTree.j0 : Nat → List Int → ByteArray → Int → Int → Bool → Bool → Option (Bool)
  | 0, _, _, _, _, _, _ => none
  | k + 1, x0, x1, x2, x3, x9, x34 => if x34 = true then (some x9) else ((keys_Tenant.f x0 x1).bind fun bt659 => ((casketref18_Tenant.f x0 x1).bind fun bt663 => ((keys_Manifest.f x0).bind fun bt667 => ((casketref18_Manifest.f x0).bind fun bt671 => (if bt659.2 = bt663.2 then (if bt667.2 = bt671.2 then ((casketlaw18_same.f k bt659.1 bt663.1).bind fun t675 => (if t675 = true then ((casketlaw18_same.f k bt667.1 bt671.1).bind fun t676 => (casketlaw18_KeysTree.j1 k x0 x2 x3 x9 (!t676))) else (casketlaw18_KeysTree.j1 k x0 x2 x3 x9 true))) else (casketlaw18_KeysTree.j1 k x0 x2 x3 x9 true)) else (casketlaw18_KeysTree.j1 k x0 x2 x3 x9 true))))))

def casketlaw18_KeysTree.j1 : Nat → List Int → Int → Int → Bool → Bool → Option (Bool)
  | 0, _, _, _, _, _ => none
  | k + 1, x0, x2, x3, x9, x77 => if x77 = true then (some false) else ((keys_Seal.f x0).bind fun bt677 => ((casketref18_Seal.f x0).bind fun bt681 => ((keys_Nonce.f k x0 x2 x3).bind fun bt685 => ((casketref18_Nonce.f k x0 x2 x3).bind fun bt689 => (if x9 = true then (if bt677.2 = bt681.2 then ((casketlaw18_same.f k bt677.1 bt681.1).bind fun t693 => (if t693 = true then (if bt685.2 = bt689.2 then ((casketlaw18_same.f k bt685.1 bt689.1).bind fun t694 => (some t694)) else (some false)) else (some false))) else (some false)) else (some false))))))
end

def casketlaw18_KeysTree.f (k : Nat) (l0 : List Int) (a1 : ByteArray) (a2 : Int) (a3 : Int) : Option (Bool) := (casketlaw18_awake.f k).bind fun t658 => (if (l0.length : Int) > 300 then (casketlaw18_KeysTree.j0 k l0 a1 a2 a3 t658 true) else (casketlaw18_KeysTree.j0 k l0 a1 a2 a3 t658 (decide ((a1.size : Int) > 1000))))

theorem casketlaw18_KeysTree.mono_l : ∀ k, (∀ y0 y1 y2 y3 y4 y5, LeO (casketlaw18_KeysTree.j0 k y0 y1 y2 y3 y4 y5) (casketlaw18_KeysTree.j0 (k + 1) y0 y1 y2 y3 y4 y5)) ∧ (∀ y0 y1 y2 y3 y4, LeO (casketlaw18_KeysTree.j1 k y0 y1 y2 y3 y4) (casketlaw18_KeysTree.j1 (k + 1) y0 y1 y2 y3 y4))
  | 0 => ⟨fun _ _ _ _ _ _ r h => by simp [casketlaw18_KeysTree.j0] at h, fun _ _ _ _ _ r h => by simp [casketlaw18_KeysTree.j1] at h⟩
  | k + 1 => by
    obtain ⟨ih0, ih1⟩ := casketlaw18_KeysTree.mono_l k
    refine ⟨?_, ?_⟩
    · intro y0 y1 y2 y3 y4 y5
      unfold casketlaw18_KeysTree.j0
      repeat' first
      | (with_reducible exact ih0 _ _ _ _ _ _)
      | (with_reducible exact ih1 _ _ _ _ _)
      | (with_reducible exact casketlaw18_awake.mono _)
      | (with_reducible exact casketlaw18_same.mono _ _ _)
      | (with_reducible exact casketref18_Nonce.mono _ _ _ _)
      | (with_reducible exact keys_Nonce.mono _ _ _ _)
      | (with_reducible exact LeO.refl _)
      | (with_reducible exact LeO.none _)
      | (with_reducible refine LeO.ite ?_ ?_)
      | (with_reducible refine LeO.bind ?_ (fun _ => ?_))
      | exact ih0 _ _ _ _ _ _
      | exact ih1 _ _ _ _ _
      | exact casketlaw18_awake.mono _
      | exact casketlaw18_same.mono _ _ _
      | exact casketref18_Nonce.mono _ _ _ _
      | exact keys_Nonce.mono _ _ _ _
      | exact LeO.none _
      | refine LeO.ite ?_ ?_
      | refine LeO.bind ?_ (fun _ => ?_)
    · intro y0 y1 y2 y3 y4
      unfold casketlaw18_KeysTree.j1
      repeat' first
      | (with_reducible exact ih0 _ _ _ _ _ _)
      | (with_reducible exact ih1 _ _ _ _ _)
      | (with_reducible exact casketlaw18_awake.mono _)
      | (with_reducible exact casketlaw18_same.mono _ _ _)
      | (with_reducible exact casketref18_Nonce.mono _ _ _ _)
      | (with_reducible exact keys_Nonce.mono _ _ _ _)
      | (with_reducible exact LeO.refl _)
      | (with_reducible exact LeO.none _)
      | (with_reducible refine LeO.ite ?_ ?_)
      | (with_reducible refine LeO.bind ?_ (fun _ => ?_))
      | exact ih0 _ _ _ _ _ _
      | exact ih1 _ _ _ _ _
      | exact casketlaw18_awake.mono _
      | exact casketlaw18_same.mono _ _ _
      | exact casketref18_Nonce.mono _ _ _ _
      | exact keys_Nonce.mono _ _ _ _
      | exact LeO.none _
      | refine LeO.ite ?_ ?_
      | refine LeO.bind ?_ (fun _ => ?_)

theorem casketlaw18_KeysTree.mono : ∀ a0 a1 a2 a3 k, LeO (casketlaw18_KeysTree.f k a0 a1 a2 a3) (casketlaw18_KeysTree.f (k + 1) a0 a1 a2 a3) := by
  intro a0 a1 a2 a3 k
  obtain ⟨ih0, ih1⟩ := casketlaw18_KeysTree.mono_l k
  unfold casketlaw18_KeysTree.f
  repeat' first
      | (with_reducible exact ih0 _ _ _ _ _ _)
      | (with_reducible exact ih1 _ _ _ _ _)
      | (with_reducible exact casketlaw18_awake.mono _)
      | (with_reducible exact casketlaw18_same.mono _ _ _)
      | (with_reducible exact casketref18_Nonce.mono _ _ _ _)
      | (with_reducible exact keys_Nonce.mono _ _ _ _)
      | (with_reducible exact LeO.refl _)
      | (with_reducible exact LeO.none _)
      | (with_reducible refine LeO.ite ?_ ?_)
      | (with_reducible refine LeO.bind ?_ (fun _ => ?_))
      | exact ih0 _ _ _ _ _ _
      | exact ih1 _ _ _ _ _
      | exact casketlaw18_awake.mono _
      | exact casketlaw18_same.mono _ _ _
      | exact casketref18_Nonce.mono _ _ _ _
      | exact keys_Nonce.mono _ _ _ _
      | exact LeO.none _
      | refine LeO.ite ?_ ?_
      | refine LeO.bind ?_ (fun _ => ?_)

/-- THE ONE PURE STATEMENT of casketlaw18_KeysTree: yours. -/
def casketlaw18_KeysTree.Pure : Prop := ∀ (l0 : List Int) (a1 : ByteArray) (a2 : Int) (a3 : Int), l0.length ≤ maxLen → l0.length * 1 ≤ 140737488351232 → (∀ x ∈ l0, (Lit.int .u8 x).wf = true) → a1.size ≤ 140737488351232 → (Lit.int .u64 a2).wf = true → (Lit.int .i64 a3).wf = true → ∃ k, casketlaw18_KeysTree.f k l0 a1 a2 a3 = some true

end Go.Proofs.Ytgdogjnjbinoiaa.Q
