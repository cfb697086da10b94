/- The pure functions (plain Lean over whole numbers and lists) of: casketlaw18_KeysNonces. -/
import Derived.Test.YtgdogjnjbinoiaaWWords
import Derived.Test.YtgdogjnjbinoiaaWAll
import Derived.Test.YtgdogjnjbinoiaaDhmac
import Derived.Test.YtgdogjnjbinoiaaDkeys
import Derived.Test.YtgdogjnjbinoiaaDref13
namespace Go.Proofs.Ytgdogjnjbinoiaa.Q
open Go.RowKit Go.Proofs.YtgdogjnjbinoiaaW.PrintWords Go.Proofs.YtgdogjnjbinoiaaW.PrintLast Go.Proofs.YtgdogjnjbinoiaaW.PrintMore
attribute [local go_sem] max2_int min2_int max_two min_two max_three min_three max_four min_four   -- for this text's walks alone
set_option linter.unusedVariables false
set_option linter.unusedSimpArgs false

/-! ### casketlaw18_KeysNonces: function 17 -/
mutual

def casketlaw18_KeysNonces.j0 : Nat → List Int → Int → Int → Bool → Bool → Option (Bool)
  | 0, _, _, _, _, _ => none
  | k + 1, x0, x1, x2, x7, x26 => if x26 = true then (some x7) else ((keys_Derive.f x0 3 (⟨#[]⟩ : ByteArray)).bind fun bt587 => ((keys_Nonce.f k x0 x1 x2).bind fun bt591 => (casketlaw18_KeysNonces.l0 k x1 x2 x7 bt587.1 bt587.2 bt591.1 bt591.2 ([] : List Int) 7)))

def casketlaw18_KeysNonces.l0 : Nat → Int → Int → Bool → List Int → Int → List Int → Int → List Int → Int → Option (Bool)
  | 0, _, _, _, _, _, _, _, _, _ => none
  | k + 1, x1, x2, x7, x8, x9, x10, x11, x12, x13 => if x13 ≥ 0 then (if 0 ≤ (IntKind.u64.wrap (wrap64 (8 * x13))) then (if x12.length < 140737488355328 then (casketlaw18_KeysNonces.l0 k x1 x2 x7 x8 x9 x10 x11 (x12 ++ [(shr .u64 x1 (IntKind.u64.wrap (wrap64 (8 * x13)))) % 256]) (wrap64 (x13 - 1))) else (none)) else (none)) else ((some (([0, (x2 / 65536) % 256, (x2 / 256) % 256, (x2) % 256] : List Int) : List Int)).bind fun y598 => (if x12.length + y598.length < 140737488355328 then ((hmac_MAC.f x8 (x12 ++ y598)).bind fun t604 => (if x7 = true then (if x9 = 0 then (if x11 = 0 then (if (t604.length : Int) = 32 then (if 12 ≤ (t604.length : Int) then ((casketlaw18_same.f k x10 (t604.take 12)).bind fun t611 => (some t611)) else (none)) else (some false)) else (some false)) else (some false)) else (some false))) else (none)))
end

def casketlaw18_KeysNonces.f (k : Nat) (l0 : List Int) (a1 : Int) (a2 : Int) : Option (Bool) := (casketlaw18_awake.f k).bind fun t586 => (if (l0.length : Int) = 32 then (if a2 < 0 then (casketlaw18_KeysNonces.j0 k l0 a1 a2 t586 true) else (casketlaw18_KeysNonces.j0 k l0 a1 a2 t586 (decide (a2 ≥ 1048576)))) else (casketlaw18_KeysNonces.j0 k l0 a1 a2 t586 true))

theorem casketlaw18_KeysNonces.mono_l : ∀ k, (∀ y0 y1 y2 y3 y4, LeO (casketlaw18_KeysNonces.j0 k y0 y1 y2 y3 y4) (casketlaw18_KeysNonces.j0 (k + 1) y0 y1 y2 y3 y4)) ∧ (∀ y0 y1 y2 y3 y4 y5 y6 y7 y8, LeO (casketlaw18_KeysNonces.l0 k y0 y1 y2 y3 y4 y5 y6 y7 y8) (casketlaw18_KeysNonces.l0 (k + 1) y0 y1 y2 y3 y4 y5 y6 y7 y8))
  | 0 => ⟨fun _ _ _ _ _ r h => by simp [casketlaw18_KeysNonces.j0] at h, fun _ _ _ _ _ _ _ _ _ r h => by simp [casketlaw18_KeysNonces.l0] at h⟩
  | k + 1 => by
    obtain ⟨ih0, ih1⟩ := casketlaw18_KeysNonces.mono_l k
    refine ⟨?_, ?_⟩
    · intro y0 y1 y2 y3 y4
      unfold casketlaw18_KeysNonces.j0
      repeat' first
      | (with_reducible exact ih0 _ _ _ _ _)
      | (with_reducible exact ih1 _ _ _ _ _ _ _ _ _)
      | (with_reducible exact casketlaw18_awake.mono _)
      | (with_reducible exact casketlaw18_same.mono _ _ _)
      | (with_reducible exact keys_Nonce.mono _ _ _ _)
      | (with_reducible exact LeO.refl _)
      | (with_reducible exact LeO.none _)
      | (with_reducible refine LeO.ite ?_ ?_)
      | (with_reducible refine LeO.bind ?_ (fun _ => ?_))
      | exact ih0 _ _ _ _ _
      | exact ih1 _ _ _ _ _ _ _ _ _
      | exact casketlaw18_awake.mono _
      | exact casketlaw18_same.mono _ _ _
      | exact keys_Nonce.mono _ _ _ _
      | exact LeO.none _
      | refine LeO.ite ?_ ?_
      | refine LeO.bind ?_ (fun _ => ?_)
    · intro y0 y1 y2 y3 y4 y5 y6 y7 y8
      unfold casketlaw18_KeysNonces.l0
      repeat' first
      | (with_reducible exact ih0 _ _ _ _ _)
      | (with_reducible exact ih1 _ _ _ _ _ _ _ _ _)
      | (with_reducible exact casketlaw18_awake.mono _)
      | (with_reducible exact casketlaw18_same.mono _ _ _)
      | (with_reducible exact keys_Nonce.mono _ _ _ _)
      | (with_reducible exact LeO.refl _)
      | (with_reducible exact LeO.none _)
      | (with_reducible refine LeO.ite ?_ ?_)
      | (with_reducible refine LeO.bind ?_ (fun _ => ?_))
      | exact ih0 _ _ _ _ _
      | exact ih1 _ _ _ _ _ _ _ _ _
      | exact casketlaw18_awake.mono _
      | exact casketlaw18_same.mono _ _ _
      | exact keys_Nonce.mono _ _ _ _
      | exact LeO.none _
      | refine LeO.ite ?_ ?_
      | refine LeO.bind ?_ (fun _ => ?_)

theorem casketlaw18_KeysNonces.mono : ∀ a0 a1 a2 k, LeO (casketlaw18_KeysNonces.f k a0 a1 a2) (casketlaw18_KeysNonces.f (k + 1) a0 a1 a2) := by
  intro a0 a1 a2 k
  obtain ⟨ih0, ih1⟩ := casketlaw18_KeysNonces.mono_l k
  unfold casketlaw18_KeysNonces.f
  repeat' first
      | (with_reducible exact ih0 _ _ _ _ _)
      | (with_reducible exact ih1 _ _ _ _ _ _ _ _ _)
      | (with_reducible exact casketlaw18_awake.mono _)
      | (with_reducible exact casketlaw18_same.mono _ _ _)
      | (with_reducible exact keys_Nonce.mono _ _ _ _)
      | (with_reducible exact LeO.refl _)
      | (with_reducible exact LeO.none _)
      | (with_reducible refine LeO.ite ?_ ?_)
      | (with_reducible refine LeO.bind ?_ (fun _ => ?_))
      | exact ih0 _ _ _ _ _
      | exact ih1 _ _ _ _ _ _ _ _ _
      | exact casketlaw18_awake.mono _
      | exact casketlaw18_same.mono _ _ _
      | exact keys_Nonce.mono _ _ _ _
      | exact LeO.none _
      | refine LeO.ite ?_ ?_
      | refine LeO.bind ?_ (fun _ => ?_)

/-- THE ONE PURE STATEMENT of casketlaw18_KeysNonces: yours. -/
def casketlaw18_KeysNonces.Pure : Prop := ∀ (l0 : List Int) (a1 : Int) (a2 : Int), l0.length ≤ maxLen → l0.length * 1 ≤ 140737488351232 → (∀ x ∈ l0, (Lit.int .u8 x).wf = true) → (Lit.int .u64 a1).wf = true → (Lit.int .i64 a2).wf = true → ∃ k, casketlaw18_KeysNonces.f k l0 a1 a2 = some true

end Go.Proofs.Ytgdogjnjbinoiaa.Q
