/- The pure functions (plain Lean over whole numbers and lists) of: slices_Clone_byte_byte, varint_with, varint_Append, cursor_Block, keys_Derive, keys_Tenant, keys_Seal, cursor_Fix, keys_Nonce, keys_Manifest. -/
import Derived.Test.YtkennblgbfhjiaaGreatDoorWWords
import Derived.Test.YtkennblgbfhjiaaGreatDoorWAll
import Derived.Test.YtkennblgbfhjiaaGreatDoorPhmac
import Derived.Test.YtkennblgbfhjiaaGreatDoorDhmac
namespace Go.Proofs.YtkennblgbfhjiaaGreatDoor.Q
open Go.RowKit Go.Proofs.YtkennblgbfhjiaaGreatDoorW.PrintWords Go.Proofs.YtkennblgbfhjiaaGreatDoorW.PrintLast Go.Proofs.YtkennblgbfhjiaaGreatDoorW.PrintMore
attribute [local go_sem] max2_int min2_int max_two min_two max_three min_three max_four min_four   -- for this text's walks alone
set_option linter.unusedVariables false
set_option linter.unusedSimpArgs false

/-! ### slices_Clone_byte_byte: function 34 -/
/-- A copy of bytes. -/
def slices_Clone_byte_byte.f (l0 : List Int) : Option (List Int) := if l0.length ≤ 140737488355000 then some l0 else none

/-! ### varint_with: function 97 -/
def varint_with.f (l0 : List Int) (l1 : List Int) : Option (List Int) := if l0.length + l1.length < 140737488355328 then (some (l0 ++ l1)) else (none)

/-! ### varint_Append: function 48 -/
def varint_Append.l0 : Nat → Int → List Int → Option (List Int)
  | 0, _, _ => none
  | k + 1, x1, x5 => if x1 ≥ 128 then ((varint_with.f x5 (([Go.bits .or .u8 ((x1) % 256) 128] : List Int))).bind fun t119 => (varint_Append.l0 k (x1 / 128) t119)) else ((varint_with.f x5 (([(x1) % 256] : List Int))).bind fun t125 => (some t125))

def varint_Append.f (k : Nat) (l0 : List Int) (a1 : Int) : Option (List Int) := (slices_Clone_byte_byte.f l0).bind fun t113 => (varint_Append.l0 k a1 t113)

theorem varint_Append.mono_l : ∀ k, (∀ y0 y1, LeO (varint_Append.l0 k y0 y1) (varint_Append.l0 (k + 1) y0 y1))
  | 0 => fun _ _ r h => by simp [varint_Append.l0] at h
  | k + 1 => by
    have ih0 := varint_Append.mono_l k
    · intro y0 y1
      unfold varint_Append.l0
      repeat' first
      | (with_reducible exact ih0 _ _)
      | (with_reducible exact LeO.refl _)
      | (with_reducible exact LeO.none _)
      | (with_reducible refine LeO.ite ?_ ?_)
      | (with_reducible refine LeO.bind ?_ (fun _ => ?_))
      | exact ih0 _ _
      | exact LeO.none _
      | refine LeO.ite ?_ ?_
      | refine LeO.bind ?_ (fun _ => ?_)

theorem varint_Append.mono : ∀ a0 a1 k, LeO (varint_Append.f k a0 a1) (varint_Append.f (k + 1) a0 a1) := by
  intro a0 a1 k
  have ih0 := varint_Append.mono_l k
  unfold varint_Append.f
  repeat' first
      | (with_reducible exact ih0 _ _)
      | (with_reducible exact LeO.refl _)
      | (with_reducible exact LeO.none _)
      | (with_reducible refine LeO.ite ?_ ?_)
      | (with_reducible refine LeO.bind ?_ (fun _ => ?_))
      | exact ih0 _ _
      | exact LeO.none _
      | refine LeO.ite ?_ ?_
      | refine LeO.bind ?_ (fun _ => ?_)

/-! ### cursor_Block: function 37 -/
def cursor_Block.f (k : Nat) (l0 : List Int) : Option (List Int) := (varint_Append.f k ([] : List Int) (IntKind.u64.wrap ((l0.length : Int)))).bind fun t128 => (if t128.length + l0.length < 140737488355328 then (some (t128 ++ l0)) else (none))

theorem cursor_Block.mono : ∀ a0 k, LeO (cursor_Block.f k a0) (cursor_Block.f (k + 1) a0) := by
  intro a0 k
  unfold cursor_Block.f
  repeat' first
      | (with_reducible exact varint_Append.mono _ _ _)
      | (with_reducible exact LeO.refl _)
      | (with_reducible exact LeO.none _)
      | (with_reducible refine LeO.ite ?_ ?_)
      | (with_reducible refine LeO.bind ?_ (fun _ => ?_))
      | exact varint_Append.mono _ _ _
      | exact LeO.none _
      | refine LeO.ite ?_ ?_
      | refine LeO.bind ?_ (fun _ => ?_)

/-! ### keys_Derive: function 15 -/
/-- A string's bytes. -/
def bytesL (s : ByteArray) : List Int := s.data.toList.map fun b => (b.toNat : Int)
theorem bytesL_length (s : ByteArray) : (bytesL s).length = s.size := by rw [bytesL, List.length_map, Array.length_toList]; rfl
/-- What goes into a key that is made. -/
def keyText (a1 : Int) (a2 : ByteArray) : List Int := a1 :: (a2.size : Int) :: bytesL a2
/-- A key made of a key, a purpose and a name. -/
def keys_Derive.f (l0 : List Int) (a1 : Int) (a2 : ByteArray) : Option (List Int × Int) := if l0.length = 32 then (if a2.size ≤ 64 then some (macW l0 [keyText a1 a2 ++ [1]], 0) else some ([], 4)) else some ([], 1)

/-! ### keys_Tenant: function 8 -/
def keys_Tenant.f (l0 : List Int) (a1 : ByteArray) : Option (List Int × Int) := (keys_Derive.f l0 1 a1).bind fun bt140 => (some (bt140.1, bt140.2))

/-! ### keys_Seal: function 44 -/
def keys_Seal.f (l0 : List Int) : Option (List Int × Int) := (keys_Derive.f l0 2 (⟨#[]⟩ : ByteArray)).bind fun bt144 => (some (bt144.1, bt144.2))

/-! ### cursor_Fix: function 50 -/
/-- The first k bytes of a number, laid from the end. -/
def fixN (v : Int) (n : Nat) : Nat → List Int
  | 0 => List.replicate n 0
  | k + 1 => (fixN v n k).set (n - 1 - k) (v / 2 ^ (8 * k) % 256)
theorem fixN_length (v : Int) (n : Nat) : ∀ k, (fixN v n k).length = n
  | 0 => by simp [fixN]
  | k + 1 => by rw [fixN, List.length_set, fixN_length v n k]
/-- A number in 8 or in 4 bytes, the highest first. -/
def cursor_Fix.f (a0 a1 : Int) : Option (List Int) := if a1 = 8 then some (fixN a0 8 8) else if a1 = 4 then some (fixN a0 4 4) else none

/-! ### keys_Nonce: function 45 -/
def keys_Nonce.j0 : Nat → Int → Int → List Int → Bool → Option (List Int × Int)
  | 0, _, _, _, _ => none
  | k + 1, x1, x2, x8, x25 => if x25 = true then (some (([] : List Int), 1)) else ((cursor_Fix.f x1 8).bind fun t162 => ((cursor_Fix.f (IntKind.u64.wrap (x2)) 4).bind fun t165 => (if t162.length + t165.length < 140737488355328 then ((hmac_MAC.f x8 (t162 ++ t165)).bind fun t171 => (if 12 ≤ (t171.length : Int) then (some ((t171.take (12 : Int).toNat), 0)) else (none))) else (none))))

def keys_Nonce.f (k : Nat) (l0 : List Int) (a1 : Int) (a2 : Int) : Option (List Int × Int) := (keys_Derive.f l0 3 (⟨#[]⟩ : ByteArray)).bind fun bt158 => (if bt158.2 = 0 then (if a2 < 0 then (keys_Nonce.j0 k a1 a2 bt158.1 true) else (keys_Nonce.j0 k a1 a2 bt158.1 (decide (a2 ≥ 1048576)))) else (keys_Nonce.j0 k a1 a2 bt158.1 true))

theorem keys_Nonce.mono_l : ∀ k, (∀ y0 y1 y2 y3, LeO (keys_Nonce.j0 k y0 y1 y2 y3) (keys_Nonce.j0 (k + 1) y0 y1 y2 y3))
  | 0 => fun _ _ _ _ r h => by simp [keys_Nonce.j0] at h
  | k + 1 => by
    have ih0 := keys_Nonce.mono_l k
    · intro y0 y1 y2 y3
      unfold keys_Nonce.j0
      repeat' first
      | (with_reducible exact ih0 _ _ _ _)
      | (with_reducible exact LeO.refl _)
      | (with_reducible exact LeO.none _)
      | (with_reducible refine LeO.ite ?_ ?_)
      | (with_reducible refine LeO.bind ?_ (fun _ => ?_))
      | exact ih0 _ _ _ _
      | exact LeO.none _
      | refine LeO.ite ?_ ?_
      | refine LeO.bind ?_ (fun _ => ?_)

theorem keys_Nonce.mono : ∀ a0 a1 a2 k, LeO (keys_Nonce.f k a0 a1 a2) (keys_Nonce.f (k + 1) a0 a1 a2) := by
  intro a0 a1 a2 k
  have ih0 := keys_Nonce.mono_l k
  unfold keys_Nonce.f
  repeat' first
      | (with_reducible exact ih0 _ _ _ _)
      | (with_reducible exact LeO.refl _)
      | (with_reducible exact LeO.none _)
      | (with_reducible refine LeO.ite ?_ ?_)
      | (with_reducible refine LeO.bind ?_ (fun _ => ?_))
      | exact ih0 _ _ _ _
      | exact LeO.none _
      | refine LeO.ite ?_ ?_
      | refine LeO.bind ?_ (fun _ => ?_)

/-! ### keys_Manifest: function 86 -/
def keys_Manifest.f (l0 : List Int) : Option (List Int × Int) := (keys_Derive.f l0 4 (⟨#[]⟩ : ByteArray)).bind fun bt251 => (some (bt251.1, bt251.2))

end Go.Proofs.YtkennblgbfhjiaaGreatDoor.Q
