/- The pure functions (plain Lean over whole numbers and lists) of: casketref02_Append, casketref03_Blocked, casketref18_Derive, casketref18_Tenant, casketref18_Manifest, casketref18_Seal, casketref03_Fix, casketref18_Nonce. -/
import Derived.Test.YtgdogjnjbinoiaaWWords
import Derived.Test.YtgdogjnjbinoiaaWAll
import Derived.Test.YtgdogjnjbinoiaaDkeys
import Derived.Test.YtgdogjnjbinoiaaPhmac
import Derived.Test.YtgdogjnjbinoiaaDref14
namespace Go.Proofs.Ytgdogjnjbinoiaa.Q
open Go.RowKit Go.Proofs.YtgdogjnjbinoiaaW.PrintWords Go.Proofs.YtgdogjnjbinoiaaW.PrintLast Go.Proofs.YtgdogjnjbinoiaaW.PrintMore
attribute [local go_sem] max2_int min2_int max_two min_two max_three min_three max_four min_four   -- for this text's walks alone
set_option linter.unusedVariables false
set_option linter.unusedSimpArgs false

/-! ### casketref02_Append: function 69 -/
def casketref02_Append.l0 : Nat → Int → List Int → Option (List Int)
  | 0, _, _ => none
  | k + 1, x1, x5 => if (IntKind.u64.wrap (Int.tdiv x1 128)) > 0 then (if x5.length < 140737488355328 then (casketref02_Append.l0 k (IntKind.u64.wrap (Int.tdiv x1 128)) (x5 ++ [((Int.tmod x1 128) + 128) % 256])) else (none)) else (if x5.length < 140737488355328 then (some (x5 ++ [(x1) % 256])) else (none))

def casketref02_Append.f (k : Nat) (l0 : List Int) (a1 : Int) : Option (List Int) := (some (([] : List Int) : List Int)).bind fun y554 => (if y554.length + l0.length < 140737488355328 then (casketref02_Append.l0 k a1 (y554 ++ l0)) else (none))

theorem casketref02_Append.mono_l : ∀ k, (∀ y0 y1, LeO (casketref02_Append.l0 k y0 y1) (casketref02_Append.l0 (k + 1) y0 y1))
  | 0 => fun _ _ r h => by simp [casketref02_Append.l0] at h
  | k + 1 => by
    have ih0 := casketref02_Append.mono_l k
    · intro y0 y1
      unfold casketref02_Append.l0
      repeat' first
      | (with_reducible exact ih0 _ _)
      | (with_reducible exact LeO.refl _)
      | (with_reducible exact LeO.none _)
      | (with_reducible refine LeO.ite ?_ ?_)
      | (with_reducible refine LeO.bind ?_ (fun _ => ?_))
      | exact ih0 _ _
      | exact LeO.none _
      | refine LeO.ite ?_ ?_
      | refine LeO.bind ?_ (fun _ => ?_)

theorem casketref02_Append.mono : ∀ a0 a1 k, LeO (casketref02_Append.f k a0 a1) (casketref02_Append.f (k + 1) a0 a1) := by
  intro a0 a1 k
  have ih0 := casketref02_Append.mono_l k
  unfold casketref02_Append.f
  repeat' first
      | (with_reducible exact ih0 _ _)
      | (with_reducible exact LeO.refl _)
      | (with_reducible exact LeO.none _)
      | (with_reducible refine LeO.ite ?_ ?_)
      | (with_reducible refine LeO.bind ?_ (fun _ => ?_))
      | exact ih0 _ _
      | exact LeO.none _
      | refine LeO.ite ?_ ?_
      | refine LeO.bind ?_ (fun _ => ?_)

/-! ### casketref03_Blocked: function 58 -/
def casketref03_Blocked.f (k : Nat) (l0 : List Int) : Option (List Int) := (casketref02_Append.f k ([] : List Int) (IntKind.u64.wrap ((l0.length : Int)))).bind fun t566 => (if t566.length + l0.length < 140737488355328 then (some (t566 ++ l0)) else (none))

theorem casketref03_Blocked.mono : ∀ a0 k, LeO (casketref03_Blocked.f k a0) (casketref03_Blocked.f (k + 1) a0) := by
  intro a0 k
  unfold casketref03_Blocked.f
  repeat' first
      | (with_reducible exact casketref02_Append.mono _ _ _)
      | (with_reducible exact LeO.refl _)
      | (with_reducible exact LeO.none _)
      | (with_reducible refine LeO.ite ?_ ?_)
      | (with_reducible refine LeO.bind ?_ (fun _ => ?_))
      | exact casketref02_Append.mono _ _ _
      | exact LeO.none _
      | refine LeO.ite ?_ ?_
      | refine LeO.bind ?_ (fun _ => ?_)

/-! ### casketref18_Derive: function 38 -/
/-- The reference's key made of a key, a purpose and a name. -/
def casketref18_Derive.f (l0 : List Int) (a1 : Int) (a2 : ByteArray) : Option (List Int × Int) := if l0.length = 32 then (if a2.size ≤ 64 then (if (∀ x ∈ l0, 0 ≤ x ∧ x < 256) ∧ 0 ≤ a1 ∧ a1 < 256 then some (macW l0 [keyText a1 a2 ++ [1]], 0) else none) else some ([], 4)) else some ([], 1)

/-! ### casketref18_Tenant: function 42 -/
def casketref18_Tenant.f (l0 : List Int) (a1 : ByteArray) : Option (List Int × Int) := (casketref18_Derive.f l0 1 a1).bind fun bt616 => (some (bt616.1, bt616.2))

/-! ### casketref18_Manifest: function 44 -/
def casketref18_Manifest.f (l0 : List Int) : Option (List Int × Int) := (casketref18_Derive.f l0 4 (⟨#[]⟩ : ByteArray)).bind fun bt624 => (some (bt624.1, bt624.2))

/-! ### casketref18_Seal: function 46 -/
def casketref18_Seal.f (l0 : List Int) : Option (List Int × Int) := (casketref18_Derive.f l0 2 (⟨#[]⟩ : ByteArray)).bind fun bt632 => (some (bt632.1, bt632.2))

/-! ### casketref03_Fix: function 60 -/
mutual

def casketref03_Fix.j0 : Nat → Int → Int → Bool → Option (List Int)
  | 0, _, _, _ => none
  | k + 1, x0, x1, x12 => if x12 = true then (some ([] : List Int)) else (casketref03_Fix.l0 k x0 ([] : List Int) (wrap64 (x1 - 1)))

def casketref03_Fix.l0 : Nat → Int → List Int → Int → Option (List Int)
  | 0, _, _, _ => none
  | k + 1, x0, x5, x6 => if x6 ≥ 0 then (if 0 ≤ (IntKind.u64.wrap (wrap64 (8 * x6))) then (if x5.length < 140737488355328 then (casketref03_Fix.l0 k x0 (x5 ++ [(shr .u64 x0 (IntKind.u64.wrap (wrap64 (8 * x6)))) % 256]) (wrap64 (x6 - 1))) else (none)) else (none)) else (some x5)
end

def casketref03_Fix.f (k : Nat) (a0 : Int) (a1 : Int) : Option (List Int) := if a1 < 0 then (casketref03_Fix.j0 k a0 a1 true) else (casketref03_Fix.j0 k a0 a1 (decide (a1 > 8)))

theorem casketref03_Fix.mono_l : ∀ k, (∀ y0 y1 y2, LeO (casketref03_Fix.j0 k y0 y1 y2) (casketref03_Fix.j0 (k + 1) y0 y1 y2)) ∧ (∀ y0 y1 y2, LeO (casketref03_Fix.l0 k y0 y1 y2) (casketref03_Fix.l0 (k + 1) y0 y1 y2))
  | 0 => ⟨fun _ _ _ r h => by simp [casketref03_Fix.j0] at h, fun _ _ _ r h => by simp [casketref03_Fix.l0] at h⟩
  | k + 1 => by
    obtain ⟨ih0, ih1⟩ := casketref03_Fix.mono_l k
    refine ⟨?_, ?_⟩
    · intro y0 y1 y2
      unfold casketref03_Fix.j0
      repeat' first
      | (with_reducible exact ih0 _ _ _)
      | (with_reducible exact ih1 _ _ _)
      | (with_reducible exact LeO.refl _)
      | (with_reducible exact LeO.none _)
      | (with_reducible refine LeO.ite ?_ ?_)
      | (with_reducible refine LeO.bind ?_ (fun _ => ?_))
      | exact ih0 _ _ _
      | exact ih1 _ _ _
      | exact LeO.none _
      | refine LeO.ite ?_ ?_
      | refine LeO.bind ?_ (fun _ => ?_)
    · intro y0 y1 y2
      unfold casketref03_Fix.l0
      repeat' first
      | (with_reducible exact ih0 _ _ _)
      | (with_reducible exact ih1 _ _ _)
      | (with_reducible exact LeO.refl _)
      | (with_reducible exact LeO.none _)
      | (with_reducible refine LeO.ite ?_ ?_)
      | (with_reducible refine LeO.bind ?_ (fun _ => ?_))
      | exact ih0 _ _ _
      | exact ih1 _ _ _
      | exact LeO.none _
      | refine LeO.ite ?_ ?_
      | refine LeO.bind ?_ (fun _ => ?_)

theorem casketref03_Fix.mono : ∀ a0 a1 k, LeO (casketref03_Fix.f k a0 a1) (casketref03_Fix.f (k + 1) a0 a1) := by
  intro a0 a1 k
  obtain ⟨ih0, ih1⟩ := casketref03_Fix.mono_l k
  unfold casketref03_Fix.f
  repeat' first
      | (with_reducible exact ih0 _ _ _)
      | (with_reducible exact ih1 _ _ _)
      | (with_reducible exact LeO.refl _)
      | (with_reducible exact LeO.none _)
      | (with_reducible refine LeO.ite ?_ ?_)
      | (with_reducible refine LeO.bind ?_ (fun _ => ?_))
      | exact ih0 _ _ _
      | exact ih1 _ _ _
      | exact LeO.none _
      | refine LeO.ite ?_ ?_
      | refine LeO.bind ?_ (fun _ => ?_)

/-! ### casketref18_Nonce: function 47 -/
def casketref18_Nonce.j0 : Nat → Int → Int → List Int → Bool → Option (List Int × Int)
  | 0, _, _, _, _ => none
  | k + 1, x1, x2, x8, x24 => if x24 = true then (some (([] : List Int), 1)) else ((casketref03_Fix.f k x1 8).bind fun t643 => ((casketref03_Fix.f k (IntKind.u64.wrap (x2)) 4).bind fun t646 => (if t643.length + t646.length < 140737488355328 then ((casketref14_MAC.f k x8 (t643 ++ t646)).bind fun t652 => (if 12 ≤ (t652.length : Int) then (some ((t652.take (12 : Int).toNat), 0)) else (none))) else (none))))

def casketref18_Nonce.f (k : Nat) (l0 : List Int) (a1 : Int) (a2 : Int) : Option (List Int × Int) := (casketref18_Derive.f l0 3 (⟨#[]⟩ : ByteArray)).bind fun bt639 => (if bt639.2 = 0 then (if a2 < 0 then (casketref18_Nonce.j0 k a1 a2 bt639.1 true) else (casketref18_Nonce.j0 k a1 a2 bt639.1 (decide (a2 ≥ 1048576)))) else (some (([] : List Int), bt639.2)))

theorem casketref18_Nonce.mono_l : ∀ k, (∀ y0 y1 y2 y3, LeO (casketref18_Nonce.j0 k y0 y1 y2 y3) (casketref18_Nonce.j0 (k + 1) y0 y1 y2 y3))
  | 0 => fun _ _ _ _ r h => by simp [casketref18_Nonce.j0] at h
  | k + 1 => by
    have ih0 := casketref18_Nonce.mono_l k
    · intro y0 y1 y2 y3
      unfold casketref18_Nonce.j0
      repeat' first
      | (with_reducible exact ih0 _ _ _ _)
      | (with_reducible exact casketref03_Fix.mono _ _ _)
      | (with_reducible exact casketref14_MAC.mono _ _ _)
      | (with_reducible exact LeO.refl _)
      | (with_reducible exact LeO.none _)
      | (with_reducible refine LeO.ite ?_ ?_)
      | (with_reducible refine LeO.bind ?_ (fun _ => ?_))
      | exact ih0 _ _ _ _
      | exact casketref03_Fix.mono _ _ _
      | exact casketref14_MAC.mono _ _ _
      | exact LeO.none _
      | refine LeO.ite ?_ ?_
      | refine LeO.bind ?_ (fun _ => ?_)

theorem casketref18_Nonce.mono : ∀ a0 a1 a2 k, LeO (casketref18_Nonce.f k a0 a1 a2) (casketref18_Nonce.f (k + 1) a0 a1 a2) := by
  intro a0 a1 a2 k
  have ih0 := casketref18_Nonce.mono_l k
  unfold casketref18_Nonce.f
  repeat' first
      | (with_reducible exact ih0 _ _ _ _)
      | (with_reducible exact casketref03_Fix.mono _ _ _)
      | (with_reducible exact casketref14_MAC.mono _ _ _)
      | (with_reducible exact LeO.refl _)
      | (with_reducible exact LeO.none _)
      | (with_reducible refine LeO.ite ?_ ?_)
      | (with_reducible refine LeO.bind ?_ (fun _ => ?_))
      | exact ih0 _ _ _ _
      | exact casketref03_Fix.mono _ _ _
      | exact casketref14_MAC.mono _ _ _
      | exact LeO.none _
      | refine LeO.ite ?_ ?_
      | refine LeO.bind ?_ (fun _ => ?_)

end Go.Proofs.Ytgdogjnjbinoiaa.Q
