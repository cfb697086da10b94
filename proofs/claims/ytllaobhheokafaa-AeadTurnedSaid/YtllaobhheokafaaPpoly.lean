/- What Poly1305 comes to, as the code makes it: plain Lean over whole numbers and lists. -/
import Derived.Test.YtllaobhheokafaaWWords
namespace Go.Proofs.Ytllaobhheokafaa.Q
open Go.RowKit Go.Proofs.YtllaobhheokafaaW.PrintWords
set_option linter.unusedVariables false
/-- The limbs, and what is carried, when the first k limbs have been carried. -/
def carN (l : List Int) : Nat → List Int × Int
  | 0 => (l, 0)
  | k + 1 => ((carN l k).1.set k (Go.bits .and .u64 (IntKind.u64.wrap (rd (carN l k).1 k + (carN l k).2)) 67108863), IntKind.u64.wrap (rd (carN l k).1 k + (carN l k).2) / 67108864)
def carW (l : List Int) : List Int := (carN l 5).1.set 0 (IntKind.u64.wrap (rd (carN l 5).1 0 + IntKind.u64.wrap (5 * (carN l 5).2)))
theorem carN_length (l : List Int) : ∀ k, (carN l k).1.length = l.length
  | 0 => rfl
  | k + 1 => by rw [carN, List.length_set, carN_length l k]
theorem carW_length (l : List Int) : (carW l).length = l.length := by rw [carW, List.length_set, carN_length]
/-- The limbs' sums, the first k of them. -/
def addN (l m : List Int) : Nat → List Int
  | 0 => l
  | k + 1 => (addN l m k).set k (IntKind.u64.wrap (rd (addN l m k) k + rd m k))
theorem addN_length (l m : List Int) : ∀ k, (addN l m k).length = l.length
  | 0 => rfl
  | k + 1 => by rw [addN, List.length_set, addN_length l m k]
def plusW (l m : List Int) : List Int := carW (addN l m 5)
theorem plusW_length (l m : List Int) : (plusW l m).length = l.length := by rw [plusW, carW_length, addN_length]
/-- The limbs, when what is above 26 bits of the first k has been taken up. -/
def upN (l : List Int) : Nat → List Int
  | 0 => l
  | k + 1 => ((upN l k).set (k + 1) (IntKind.u64.wrap (rd (upN l k) (k + 1) + rd (upN l k) k / 67108864))).set k (Go.bits .and .u64 (rd (upN l k) k) 67108863)
theorem upN_length (l : List Int) : ∀ k, (upN l k).length = l.length
  | 0 => rfl
  | k + 1 => by rw [upN, List.length_set, List.length_set, upN_length l k]
/-- One limb by another, as it comes in. -/
def mulV (n r : List Int) (i j : Nat) : Int := if 5 ≤ i + j then IntKind.u64.wrap (IntKind.u64.wrap (rd n i * rd r j) * 5) else IntKind.u64.wrap (rd n i * rd r j)
def timJ (n r : List Int) (o : List Int) (i : Nat) : Nat → List Int
  | 0 => o
  | j + 1 => (timJ n r o i j).set ((i + j) % 5) (IntKind.u64.wrap (rd (timJ n r o i j) ((i + j) % 5 : Nat) + mulV n r i j))
def timI (n r : List Int) : Nat → List Int
  | 0 => List.replicate 5 0
  | i + 1 => timJ n r (timI n r i) i 5
theorem timJ_length (n r o : List Int) (i : Nat) : ∀ j, (timJ n r o i j).length = o.length
  | 0 => rfl
  | j + 1 => by rw [timJ, List.length_set, timJ_length n r o i j]
theorem timI_length (n r : List Int) : ∀ i, (timI n r i).length = 5
  | 0 => rfl
  | i + 1 => by rw [timI, timJ_length, timI_length n r i]
def timesW (n r : List Int) : List Int := carW (carW (timI n r 5))
theorem timesW_length (n r : List Int) : (timesW n r).length = 5 := by rw [timesW, carW_length, carW_length, timI_length]
/-- A byte, where it comes to lie. -/
def ofV (b : List Int) (k : Nat) : Int := IntKind.u64.wrap (IntKind.u64.wrap (rd b k) * 2 ^ (8 * k % 26))
/-- The limbs of the first k bytes. -/
def ofN (b : List Int) : Nat → List Int
  | 0 => List.replicate 5 0
  | k + 1 => if 0 < ofV b k / 67108864 then ((ofN b k).set (8 * k / 26) (IntKind.u64.wrap (rd (ofN b k) (8 * k / 26 : Nat) + Go.bits .and .u64 (ofV b k) 67108863))).set (8 * k / 26 + 1) (IntKind.u64.wrap (rd (ofN b k) (8 * k / 26 + 1 : Nat) + ofV b k / 67108864))
    else (ofN b k).set (8 * k / 26) (IntKind.u64.wrap (rd (ofN b k) (8 * k / 26 : Nat) + Go.bits .and .u64 (ofV b k) 67108863))
theorem ofN_length (b : List Int) : ∀ k, (ofN b k).length = 5
  | 0 => rfl
  | k + 1 => by
    rw [ofN]
    split
    · rw [List.length_set, List.length_set, ofN_length b k]
    · rw [List.length_set, ofN_length b k]
def ofW (b : List Int) : List Int := ofN b b.length
theorem ofW_length (b : List Int) : (ofW b).length = 5 := ofN_length _ _
/-- The bits m alone stay of the bytes p, p + 4, .. (the first j of them). -/
def andN (l : List Int) (p : Nat) (m : Int) : Nat → List Int
  | 0 => l
  | j + 1 => (andN l p m j).set (p + 4 * j) (Go.bits .and .u8 (rd (andN l p m j) (p + 4 * j : Nat)) m)
theorem andN_length (l : List Int) (p : Nat) (m : Int) : ∀ j, (andN l p m j).length = l.length
  | 0 => rfl
  | j + 1 => by rw [andN, List.length_set, andN_length l p m j]
/-- r's bytes. -/
def clampB (key : List Int) : List Int := andN (andN (key.take 16) 3 15 4) 4 252 3
theorem clampB_length (key : List Int) (h : 16 ≤ key.length) : (clampB key).length = 16 := by rw [clampB, andN_length, andN_length, List.length_take]; omega
/-- A byte of a number, out of its limbs. -/
def bytV (m : List Int) (k : Nat) : Int :=
  if 8 * k / 26 + 1 < 5 then Go.bits .or .u64 (rd m (8 * k / 26 : Nat) / 2 ^ (8 * k % 26)) (IntKind.u64.wrap (rd m (8 * k / 26 + 1 : Nat) * 2 ^ (26 - 8 * k % 26))) else rd m (8 * k / 26 : Nat) / 2 ^ (8 * k % 26)
def bytN (m : List Int) : Nat → List Int
  | 0 => List.replicate 16 0
  | k + 1 => (bytN m k).set k (bytV m k % 256)
theorem bytN_length (m : List Int) : ∀ k, (bytN m k).length = 16
  | 0 => rfl
  | k + 1 => by rw [bytN, List.length_set, bytN_length m k]
def bytesW (l : List Int) : List Int := bytN (upN l 4) 16
theorem bytesW_length (l : List Int) : (bytesW l).length = 16 := bytN_length _ _
/-- A number and 5, and what is above 26 bits taken up. -/
def lessW (l : List Int) : List Int := upN (l.set 0 (IntKind.u64.wrap (rd l 0 + 5))) 4
theorem lessW_length (l : List Int) : (lessW l).length = l.length := by rw [lessW, upN_length, List.length_set]
/-- A number modulo p, whole. -/
def wholeW (l : List Int) : List Int := if rd (lessW (carW (carW l))) 4 / 67108864 = 0 then carW (carW l) else (lessW (carW (carW l))).set 4 (Go.bits .and .u64 (rd (lessW (carW (carW l))) 4) 67108863)
theorem wholeW_length (l : List Int) : (wholeW l).length = l.length := by
  unfold wholeW
  split
  · rw [carW_length, carW_length]
  · rw [List.length_set, lessW_length, carW_length, carW_length]
/-- A piece of sixteen bytes, or what is left. -/
def pieceL (b : List Int) (k : Nat) : List Int := (b.take (16 * k + 16)).drop (16 * k)
/-- What the first k pieces come to. -/
def accI (r b : List Int) : Nat → List Int
  | 0 => List.replicate 5 0
  | k + 1 => timesW (plusW (accI r b k) (ofW (pieceL b k ++ [1]))) r
theorem accI_length (r b : List Int) : ∀ k, (accI r b k).length = 5
  | 0 => rfl
  | k + 1 => timesW_length _ _
/-- The tag of bytes by a key. -/
def macP (key b : List Int) : List Int := bytesW (addN (wholeW (accI (ofW (clampB key)) b ((b.length + 15) / 16))) (ofW (key.drop 16)) 5)
end Go.Proofs.Ytllaobhheokafaa.Q
