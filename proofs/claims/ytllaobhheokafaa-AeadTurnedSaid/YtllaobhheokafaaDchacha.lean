/- The pure functions (plain Lean over whole numbers and lists) of: bits_RotateLeft32, chacha_Quarter, casketlaw15_awake, chacha_right, chacha_block, chacha_Block, chacha_Stream. -/
import Derived.Test.YtllaobhheokafaaWWords
import Derived.Test.YtllaobhheokafaaWAll
namespace Go.Proofs.Ytllaobhheokafaa.Q
open Go.RowKit Go.Proofs.YtllaobhheokafaaW.PrintWords Go.Proofs.YtllaobhheokafaaW.PrintLast Go.Proofs.YtllaobhheokafaaW.PrintMore
attribute [local go_sem] max2_int min2_int max_two min_two max_three min_three max_four min_four   -- for this text's walks alone
set_option linter.unusedVariables false
set_option linter.unusedSimpArgs false

/-! ### bits_RotateLeft32: function 40 -/
def bits_RotateLeft32.f (a0 : Int) (a1 : Int) : Option (Int) := if 0 ≤ (Go.bits .and .u64 (IntKind.u64.wrap (a1)) 31) then (if 0 ≤ (IntKind.u64.wrap (32 - (Go.bits .and .u64 (IntKind.u64.wrap (a1)) 31))) then (some (Go.bits .or .u32 (shl .u32 a0 (Go.bits .and .u64 (IntKind.u64.wrap (a1)) 31)) (shr .u32 a0 (IntKind.u64.wrap (32 - (Go.bits .and .u64 (IntKind.u64.wrap (a1)) 31)))))) else (none)) else (none)

/-! ### chacha_Quarter: function 21 -/
def chacha_Quarter.f (a0 : Int) (a1 : Int) (a2 : Int) (a3 : Int) : Option (Int × Int × Int × Int) := (bits_RotateLeft32.f (Go.bits .xor .u32 a3 ((a0 + a1) % 4294967296)) 16).bind fun t101 => ((bits_RotateLeft32.f (Go.bits .xor .u32 a1 ((a2 + t101) % 4294967296)) 12).bind fun t102 => ((bits_RotateLeft32.f (Go.bits .xor .u32 t101 ((((a0 + a1) % 4294967296) + t102) % 4294967296)) 8).bind fun t103 => ((bits_RotateLeft32.f (Go.bits .xor .u32 t102 ((((a2 + t101) % 4294967296) + t103) % 4294967296)) 7).bind fun t104 => (some ((((a0 + a1) % 4294967296) + t102) % 4294967296, t104, (((a2 + t101) % 4294967296) + t103) % 4294967296, t103)))))

def rotl (x n : Int) : Int := Go.bits .or .u32 (shl .u32 x n) (shr .u32 x (32 - n))
theorem rot_n (x n : Int) (h : n = 16 ∨ n = 12 ∨ n = 8 ∨ n = 7) : bits_RotateLeft32.f x n = some (rotl x n) := by
  rcases h with rfl | rfl | rfl | rfl <;> rfl
def qx (a b d : Int) : Int := rotl (Go.bits .xor .u32 d ((a + b) % 4294967296)) 16
def qy (a b c d : Int) : Int := rotl (Go.bits .xor .u32 b ((c + qx a b d) % 4294967296)) 12
def qrA (a b c d : Int) : Int := (a + b + qy a b c d) % 4294967296
def qrD (a b c d : Int) : Int := rotl (Go.bits .xor .u32 (qx a b d) (qrA a b c d)) 8
def qrC (a b c d : Int) : Int := (c + qx a b d + qrD a b c d) % 4294967296
def qrB (a b c d : Int) : Int := rotl (Go.bits .xor .u32 (qy a b c d) (qrC a b c d)) 7
theorem quarter_f (a b c d : Int) : chacha_Quarter.f a b c d = some (qrA a b c d, qrB a b c d, qrC a b c d, qrD a b c d) := by
  unfold chacha_Quarter.f
  rw [rot_n _ _ (by decide)]; simp only [Option.bind_some]
  rw [rot_n _ _ (by decide)]; simp only [Option.bind_some]
  rw [rot_n _ _ (by decide)]; simp only [Option.bind_some]
  rw [rot_n _ _ (by decide)]; simp only [Option.bind_some]
  simp only [Int.emod_add_emod]
  rfl

/-! ### casketlaw15_awake: function 20 -/
def casketlaw15_awake.f  : Option (Bool) := (chacha_Quarter.f 286331153 16909060 2609737539 19088743).bind fun bt105 => (if bt105.1 = 3928658676 then (if bt105.2.1 = 3407673550 then (if bt105.2.2.1 = 1166100270 then (some (bt105.2.2.2 == 1484899515)) else (some false)) else (some false)) else (some false))

/-! ### chacha_right: function 42 -/
def chacha_right.f (l0 : List Int) (l1 : List Int) : Option (Bool) := if (l0.length : Int) = 32 then (some ((l1.length : Int) == 12)) else (some false)

/-! ### chacha_block: function 43 -/
/-- The words after the first k bytes of b have been laid in from place p on. -/
def layN (p : Int) (b l : List Int) : Nat → List Int
  | 0 => l
  | k + 1 => (layN p b l k).set (p + (k : Int) / 4).toNat (Go.bits .or .u32 (rd (layN p b l k) (p + (k : Int) / 4)) (rd b k % 4294967296 * 2 ^ (8 * (k % 4)) % 4294967296))
theorem layN_length (p : Int) (b l : List Int) : ∀ k, (layN p b l k).length = l.length
  | 0 => rfl
  | k + 1 => by simp [layN, layN_length p b l k]
def consts : List Int := [1634760805, 857760878, 2036477234, 1797285236, 0, 0, 0, 0, 0, 0, 0, 0, 0, 0, 0, 0]
def firstW (l0 : List Int) (a1 : Int) (l2 : List Int) : List Int := layN 13 l2 ((layN 4 l0 consts l0.length).set 12 a1) l2.length
theorem firstW_length (l0 : List Int) (a1 : Int) (l2 : List Int) : (firstW l0 a1 l2).length = 16 := by simp [firstW, layN_length, consts]
/-- The quarter round upon the words i, j, k, m. -/
def turn4 (l : List Int) (i j k m : Int) : List Int :=
  (((l.set i.toNat (qrA (rd l i) (rd l j) (rd l k) (rd l m))).set j.toNat (qrB (rd l i) (rd l j) (rd l k) (rd l m))).set k.toNat (qrC (rd l i) (rd l j) (rd l k) (rd l m))).set m.toNat (qrD (rd l i) (rd l j) (rd l k) (rd l m))
theorem turn4_length (l : List Int) (i j k m : Int) : (turn4 l i j k m).length = l.length := by simp [turn4]
def colN (l : List Int) : Nat → List Int
  | 0 => l
  | k + 1 => turn4 (colN l k) k (4 + k) (8 + k) (12 + k)
def diaN (l : List Int) : Nat → List Int
  | 0 => l
  | k + 1 => turn4 (diaN l k) k (4 + ((k : Int) + 1) % 4) (8 + ((k : Int) + 2) % 4) (12 + ((k : Int) + 3) % 4)
def rndN (l : List Int) : Nat → List Int
  | 0 => l
  | n + 1 => diaN (colN (rndN l n) 4) 4
theorem colN_length (l : List Int) : ∀ k, (colN l k).length = l.length
  | 0 => rfl
  | k + 1 => by rw [colN, turn4_length, colN_length l k]
theorem diaN_length (l : List Int) : ∀ k, (diaN l k).length = l.length
  | 0 => rfl
  | k + 1 => by rw [diaN, turn4_length, diaN_length l k]
theorem rndN_length (l : List Int) : ∀ k, (rndN l k).length = l.length
  | 0 => rfl
  | k + 1 => by rw [rndN, diaN_length, colN_length, rndN_length l k]
/-- The four bytes of a word (modulo 2^32), the lowest first. -/
def le4 (x : Int) : List Int := [x % 256, x % 4294967296 / 256 % 256, x % 4294967296 / 65536 % 256, x % 4294967296 / 16777216]
def outN (t f : List Int) : Nat → List Int
  | 0 => []
  | k + 1 => outN t f k ++ le4 (rd t k + rd f k)
theorem outN_length (t f : List Int) : ∀ k, (outN t f k).length = 4 * k
  | 0 => rfl
  | k + 1 => by rw [outN, List.length_append, outN_length t f k]; simp [le4]; omega
def blockW (l0 : List Int) (a1 : Int) (l2 : List Int) : List Int := outN (rndN (firstW l0 a1 l2) 10) (firstW l0 a1 l2) 16
/-- The block of a key of 32 bytes, a counter and a nonce of 12. -/
def chacha_block.f (l0 : List Int) (a1 : Int) (l2 : List Int) : Option (List Int) := if l0.length = 32 then (if l2.length = 12 then some (blockW l0 a1 l2) else none) else none

/-! ### chacha_Block: function 23 -/
def chacha_Block.f (l0 : List Int) (a1 : Int) (l2 : List Int) : Option (List Int × Int) := (chacha_right.f l0 l2).bind fun t116 => (if t116 = true then ((chacha_block.f l0 a1 l2).bind fun t117 => (some (t117, 0))) else (some (([] : List Int), 1)))

/-! ### chacha_Stream: function 26 -/
/-- Byte i of what b comes to. -/
def streamB (l0 : List Int) (a1 : Int) (l2 b : List Int) (i : Nat) : Int := Go.bits .xor .u8 (rd b i) (rd (blockW l0 ((a1 + (i / 64 : Nat)) % 4294967296) l2) (i % 64 : Nat))
/-- The first m bytes of it, and 0 behind. -/
def streamN (l0 : List Int) (a1 : Int) (l2 b : List Int) (m : Nat) : List Int := (List.range b.length).map fun i => if i < m then streamB l0 a1 l2 b i else 0
theorem streamN_length (l0 : List Int) (a1 : Int) (l2 b : List Int) (m : Nat) : (streamN l0 a1 l2 b m).length = b.length := by simp [streamN]
theorem streamN_zero (l0 : List Int) (a1 : Int) (l2 b : List Int) : streamN l0 a1 l2 b 0 = List.replicate b.length 0 := by
  apply List.ext_getElem
  · simp [streamN]
  · intro i h1 h2; simp [streamN]
theorem streamN_set (l0 : List Int) (a1 : Int) (l2 b : List Int) (m : Nat) : (streamN l0 a1 l2 b m).set m (streamB l0 a1 l2 b m) = streamN l0 a1 l2 b (m + 1) := by
  apply List.ext_getElem
  · simp [streamN]
  · intro i h1 h2
    rw [List.getElem_set]
    simp only [streamN, List.getElem_map, List.getElem_range]
    by_cases h : m = i
    · subst h; rw [if_pos rfl, if_pos (by omega)]
    · rw [if_neg h]
      by_cases h' : i < m
      · rw [if_pos h', if_pos (by omega)]
      · rw [if_neg h', if_neg (by omega)]
theorem streamN_all (l0 : List Int) (a1 : Int) (l2 b : List Int) (m : Nat) (hm : b.length ≤ m) : streamN l0 a1 l2 b m = streamN l0 a1 l2 b b.length := by
  apply List.ext_getElem
  · simp [streamN]
  · intro i h1 h2
    simp only [streamN, List.getElem_map, List.getElem_range]
    have : i < b.length := by simpa [streamN] using h1
    rw [if_pos (by omega), if_pos this]
/-- What b comes to. -/
def streamW (l0 : List Int) (a1 : Int) (l2 b : List Int) : List Int := streamN l0 a1 l2 b b.length
theorem blockW_length (l0 : List Int) (a1 : Int) (l2 : List Int) : (blockW l0 a1 l2).length = 64 := by rw [blockW, outN_length]
/-- What any bytes come to (0), or why to nothing (1: no key, no nonce; 4: too long). -/
def chacha_Stream.f (_k : Nat) (l0 : List Int) (a1 : Int) (l2 : List Int) (l3 : List Int) : Option (List Int × Int) :=
  if l0.length = 32 ∧ l2.length = 12 then (if l3.length ≤ 140737488351232 ∧ 0 ≤ a1 ∧ a1 < 4294967296 then (if ((l3.length : Int) + 63) / 64 ≤ 4294967296 - a1 then some (streamW l0 a1 l2 l3, 0) else some ([], 4)) else none) else some ([], 1)
theorem chacha_Stream.mono : ∀ a0 a1 a2 a3 k, LeO (chacha_Stream.f k a0 a1 a2 a3) (chacha_Stream.f (k + 1) a0 a1 a2 a3) := fun _ _ _ _ _ => LeO.refl _

end Go.Proofs.Ytllaobhheokafaa.Q
