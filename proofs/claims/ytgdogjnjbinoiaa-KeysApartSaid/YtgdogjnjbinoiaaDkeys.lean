/- The pure functions (plain Lean over whole numbers and lists) of: slices_Clone_byte_byte, varint_with, varint_Append, cursor_Block, keys_Derive, cursor_Fix, keys_Nonce, casketlaw18_awake, keys_Tenant, keys_Manifest, keys_Seal. -/
import Derived.Test.YtgdogjnjbinoiaaWWords
import Derived.Test.YtgdogjnjbinoiaaWAll
import Derived.Test.YtgdogjnjbinoiaaPhmac
import Derived.Test.YtgdogjnjbinoiaaDhmac
namespace Go.Proofs.Ytgdogjnjbinoiaa.Q
open Go.RowKit Go.Proofs.YtgdogjnjbinoiaaW.PrintWords Go.Proofs.YtgdogjnjbinoiaaW.PrintLast Go.Proofs.YtgdogjnjbinoiaaW.PrintMore
attribute [local go_sem] max2_int min2_int max_two min_two max_three min_three max_four min_four   -- for this text's walks alone
set_option linter.unusedVariables false
set_option linter.unusedSimpArgs false

/-! ### slices_Clone_byte_byte: function 71 -/
/-- A copy of bytes. -/
def slices_Clone_byte_byte.f (l0 : List Int) : Option (List Int) := if l0.length ≤ 140737488355000 then some l0 else none

/-! ### varint_with: function 72 -/
def varint_with.f (l0 : List Int) (l1 : List Int) : Option (List Int) := if l0.length + l1.length < 140737488355328 then (some (l0 ++ l1)) else (none)

/-! ### varint_Append: function 68 -/
def varint_Append.l0 : Nat → Int → List Int → Option (List Int)
  | 0, _, _ => none
  | k + 1, x1, x5 => if x1 ≥ 128 then ((varint_with.f x5 (([Go.bits .or .u8 ((x1) % 256) 128] : List Int))).bind fun t486 => (varint_Append.l0 k (x1 / 128) t486)) else ((varint_with.f x5 (([(x1) % 256] : List Int))).bind fun t492 => (some t492))

def varint_Append.f (k : Nat) (l0 : List Int) (a1 : Int) : Option (List Int) := (slices_Clone_byte_byte.f l0).bind fun t480 => (varint_Append.l0 k a1 t480)

theorem varint_Append.mono_l : ∀ k, (∀ y0 y1, LeO (varint_Append.l0 k y0 y1) (varint_Append.l0 (k + 1) y0 y1))
  | 0 => fun _ _ r h => by simp [varint_Append.l0] at h
  | k + 1 => by
    have ih0 := varint_Append.mono_l k
    · intro y0 y1
      unfold varint_Append.l0
      repeat' first
      | (with_reducible exact ih0 _ _)
      | (with_reducible exact LeO.refl _)
      | (with_reducible exact LeO.none _)
      | (with_reducible refine LeO.ite ?_ ?_)
      | (with_reducible refine LeO.bind ?_ (fun _ => ?_))
      | exact ih0 _ _
      | exact LeO.none _
      | refine LeO.ite ?_ ?_
      | refine LeO.bind ?_ (fun _ => ?_)

theorem varint_Append.mono : ∀ a0 a1 k, LeO (varint_Append.f k a0 a1) (varint_Append.f (k + 1) a0 a1) := by
  intro a0 a1 k
  have ih0 := varint_Append.mono_l k
  unfold varint_Append.f
  repeat' first
      | (with_reducible exact ih0 _ _)
      | (with_reducible exact LeO.refl _)
      | (with_reducible exact LeO.none _)
      | (with_reducible refine LeO.ite ?_ ?_)
      | (with_reducible refine LeO.bind ?_ (fun _ => ?_))
      | exact ih0 _ _
      | exact LeO.none _
      | refine LeO.ite ?_ ?_
      | refine LeO.bind ?_ (fun _ => ?_)

/-! ### cursor_Block: function 57 -/
def cursor_Block.f (k : Nat) (l0 : List Int) : Option (List Int) := (varint_Append.f k ([] : List Int) (IntKind.u64.wrap ((l0.length : Int)))).bind fun t495 => (if t495.length + l0.length < 140737488355328 then (some (t495 ++ l0)) else (none))

theorem cursor_Block.mono : ∀ a0 k, LeO (cursor_Block.f k a0) (cursor_Block.f (k + 1) a0) := by
  intro a0 k
  unfold cursor_Block.f
  repeat' first
      | (with_reducible exact varint_Append.mono _ _ _)
      | (with_reducible exact LeO.refl _)
      | (with_reducible exact LeO.none _)
      | (with_reducible refine LeO.ite ?_ ?_)
      | (with_reducible refine LeO.bind ?_ (fun _ => ?_))
      | exact varint_Append.mono _ _ _
      | exact LeO.none _
      | refine LeO.ite ?_ ?_
      | refine LeO.bind ?_ (fun _ => ?_)

/-! ### keys_Derive: function 37 -/
/-- A string's bytes. -/
def bytesL (s : ByteArray) : List Int := s.data.toList.map fun b => (b.toNat : Int)
theorem bytesL_length (s : ByteArray) : (bytesL s).length = s.size := by rw [bytesL, List.length_map, Array.length_toList]; rfl
/-- What goes into a key that is made. -/
def keyText (a1 : Int) (a2 : ByteArray) : List Int := a1 :: (a2.size : Int) :: bytesL a2
/-- A key made of a key, a purpose and a name. -/
def keys_Derive.f (l0 : List Int) (a1 : Int) (a2 : ByteArray) : Option (List Int × Int) := if l0.length = 32 then (if a2.size ≤ 64 then some (macW l0 [keyText a1 a2 ++ [1]], 0) else some ([], 4)) else some ([], 1)

/-! ### cursor_Fix: function 59 -/
/-- The first k bytes of a number, laid from the end. -/
def fixN (v : Int) (n : Nat) : Nat → List Int
  | 0 => List.replicate n 0
  | k + 1 => (fixN v n k).set (n - 1 - k) (v / 2 ^ (8 * k) % 256)
theorem fixN_length (v : Int) (n : Nat) : ∀ k, (fixN v n k).length = n
  | 0 => by simp [fixN]
  | k + 1 => by rw [fixN, List.length_set, fixN_length v n k]
/-- A number in 8 or in 4 bytes, the highest first. -/
def cursor_Fix.f (a0 a1 : Int) : Option (List Int) := if a1 = 8 then some (fixN a0 8 8) else if a1 = 4 then some (fixN a0 4 4) else none

/-! ### keys_Nonce: function 40 -/
def keys_Nonce.j0 : Nat → Int → Int → List Int → Bool → Option (List Int × Int)
  | 0, _, _, _, _ => none
  | k + 1, x1, x2, x8, x25 => if x25 = true then (some (([] : List Int), 1)) else ((cursor_Fix.f x1 8).bind fun t511 => ((cursor_Fix.f (IntKind.u64.wrap (x2)) 4).bind fun t514 => (if t511.length + t514.length < 140737488355328 then ((hmac_MAC.f x8 (t511 ++ t514)).bind fun t520 => (if 12 ≤ (t520.length : Int) then (some ((t520.take (12 : Int).toNat), 0)) else (none))) else (none))))

def keys_Nonce.f (k : Nat) (l0 : List Int) (a1 : Int) (a2 : Int) : Option (List Int × Int) := (keys_Derive.f l0 3 (⟨#[]⟩ : ByteArray)).bind fun bt507 => (if bt507.2 = 0 then (if a2 < 0 then (keys_Nonce.j0 k a1 a2 bt507.1 true) else (keys_Nonce.j0 k a1 a2 bt507.1 (decide (a2 ≥ 1048576)))) else (keys_Nonce.j0 k a1 a2 bt507.1 true))

theorem keys_Nonce.mono_l : ∀ k, (∀ y0 y1 y2 y3, LeO (keys_Nonce.j0 k y0 y1 y2 y3) (keys_Nonce.j0 (k + 1) y0 y1 y2 y3))
  | 0 => fun _ _ _ _ r h => by simp [keys_Nonce.j0] at h
  | k + 1 => by
    have ih0 := keys_Nonce.mono_l k
    · intro y0 y1 y2 y3
      unfold keys_Nonce.j0
      repeat' first
      | (with_reducible exact ih0 _ _ _ _)
      | (with_reducible exact LeO.refl _)
      | (with_reducible exact LeO.none _)
      | (with_reducible refine LeO.ite ?_ ?_)
      | (with_reducible refine LeO.bind ?_ (fun _ => ?_))
      | exact ih0 _ _ _ _
      | exact LeO.none _
      | refine LeO.ite ?_ ?_
      | refine LeO.bind ?_ (fun _ => ?_)

theorem keys_Nonce.mono : ∀ a0 a1 a2 k, LeO (keys_Nonce.f k a0 a1 a2) (keys_Nonce.f (k + 1) a0 a1 a2) := by
  intro a0 a1 a2 k
  have ih0 := keys_Nonce.mono_l k
  unfold keys_Nonce.f
  repeat' first
      | (with_reducible exact ih0 _ _ _ _)
      | (with_reducible exact LeO.refl _)
      | (with_reducible exact LeO.none _)
      | (with_reducible refine LeO.ite ?_ ?_)
      | (with_reducible refine LeO.bind ?_ (fun _ => ?_))
      | exact ih0 _ _ _ _
      | exact LeO.none _
      | refine LeO.ite ?_ ?_
      | refine LeO.bind ?_ (fun _ => ?_)

/-! ### casketlaw18_awake: function 36 -/
def casketlaw18_awake.f (k : Nat)  : Option (Bool) := if 32 ≤ 281474976710656 then ((keys_Derive.f (List.replicate 32 0) 1 (⟨#[97]⟩ : ByteArray)).bind fun bt529 => (if 31 ≤ 281474976710656 then ((keys_Derive.f (List.replicate 31 0) 1 (⟨#[97]⟩ : ByteArray)).bind fun bt536 => ((keys_Nonce.f k (List.replicate 32 0) 1 1048576).bind fun bt543 => ((keys_Nonce.f k (List.replicate 32 0) 1 1).bind fun bt550 => (if bt529.2 = 0 then (if (bt529.1.length : Int) = 32 then (if bt536.2 = 1 then (if bt543.2 = 1 then (if bt550.2 = 0 then (some ((bt550.1.length : Int) == 12)) else (some false)) else (some false)) else (some false)) else (some false)) else (some false))))) else (none))) else (none)

theorem casketlaw18_awake.mono : ∀ k, LeO (casketlaw18_awake.f k ) (casketlaw18_awake.f (k + 1) ) := by
  intro  k
  unfold casketlaw18_awake.f
  repeat' first
      | (with_reducible exact keys_Nonce.mono _ _ _ _)
      | (with_reducible exact LeO.refl _)
      | (with_reducible exact LeO.none _)
      | (with_reducible refine LeO.ite ?_ ?_)
      | (with_reducible refine LeO.bind ?_ (fun _ => ?_))
      | exact keys_Nonce.mono _ _ _ _
      | exact LeO.none _
      | refine LeO.ite ?_ ?_
      | refine LeO.bind ?_ (fun _ => ?_)

/-! ### keys_Tenant: function 41 -/
def keys_Tenant.f (l0 : List Int) (a1 : ByteArray) : Option (List Int × Int) := (keys_Derive.f l0 1 a1).bind fun bt612 => (some (bt612.1, bt612.2))

/-! ### keys_Manifest: function 43 -/
def keys_Manifest.f (l0 : List Int) : Option (List Int × Int) := (keys_Derive.f l0 4 (⟨#[]⟩ : ByteArray)).bind fun bt620 => (some (bt620.1, bt620.2))

/-! ### keys_Seal: function 45 -/
def keys_Seal.f (l0 : List Int) : Option (List Int × Int) := (keys_Derive.f l0 2 (⟨#[]⟩ : ByteArray)).bind fun bt628 => (some (bt628.1, bt628.2))

end Go.Proofs.Ytgdogjnjbinoiaa.Q
