/- What HMAC-SHA256 comes to, as the code makes it: plain Lean over whole numbers and lists. -/
import Derived.Test.YtkennblgbfhjiaaGreatDoorPsha
namespace Go.Proofs.YtkennblgbfhjiaaGreatDoor.Q
open Go.RowKit Go.Proofs.YtkennblgbfhjiaaGreatDoorW.PrintWords
set_option linter.unusedVariables false
/-- A key's bytes with a byte held against the first k of them. -/
def xorN (K : List Int) (x : Int) : Nat → List Int
  | 0 => K
  | k + 1 => (xorN K x k).set k (Go.bits .xor .u8 (rd (xorN K x k) k) x)
theorem xorN_length (K : List Int) (x : Int) : ∀ k, (xorN K x k).length = K.length
  | 0 => rfl
  | k + 1 => by rw [xorN, List.length_set, xorN_length K x k]
def summedW (K : List Int) (x : Int) (bs : List (List Int)) : List Int := shaW (xorN K x 64 ++ bs.flatten)
/-- A key with noughts behind it. -/
def keyW (k : List Int) : List Int := k ++ List.replicate (64 - k.length) 0
/-- A key of more than 64 bytes stands for its sum. -/
def shortW (k : List Int) : List Int := if 64 < k.length then shaW k else k
def macW (key : List Int) (bs : List (List Int)) : List Int := summedW (keyW (shortW key)) 92 [summedW (keyW (shortW key)) 54 bs]
def padW (key : List Int) (x : Int) : List Int := xorN (keyW (shortW key)) x 64
/-- The tags that are made of a key, one after the other. -/
def tagN (key info : List Int) : Nat → List Int
  | 0 => []
  | i + 1 => macW key [tagN key info i, info, [(i : Int) + 1]]
/-- The first i of them, laid together. -/
def expN (key info : List Int) : Nat → List Int
  | 0 => []
  | i + 1 => expN key info i ++ tagN key info (i + 1)
end Go.Proofs.YtkennblgbfhjiaaGreatDoor.Q
