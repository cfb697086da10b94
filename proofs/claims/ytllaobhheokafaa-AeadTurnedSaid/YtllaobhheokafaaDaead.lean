/- The pure functions (plain Lean over whole numbers and lists) of: aead_filled, aead_low, aead_tag, aead_Seal, hmac_Same, aead_Open, casketlaw17_awake. -/
import Derived.Test.YtllaobhheokafaaWWords
import Derived.Test.YtllaobhheokafaaWAll
import Derived.Test.YtllaobhheokafaaDpoly
import Derived.Test.YtllaobhheokafaaDchacha
import Derived.Test.YtllaobhheokafaaDref15
import Derived.Test.YtllaobhheokafaaC0
namespace Go.Proofs.Ytllaobhheokafaa.Q
open Go.RowKit Go.Proofs.YtllaobhheokafaaW.PrintWords Go.Proofs.YtllaobhheokafaaW.PrintLast Go.Proofs.YtllaobhheokafaaW.PrintMore
attribute [local go_sem] max2_int min2_int max_two min_two max_three min_three max_four min_four   -- for this text's walks alone
set_option linter.unusedVariables false
set_option linter.unusedSimpArgs false

/-! ### aead_filled: function 70 -/
def aead_filled.l0 : Nat → List Int → List (List Int) → Int → Int → Option (List Int)
  | 0, _, _, _, _ => none
  | k + 1, x3, x6, x7, x8 => if x8 < x7 then (if 0 ≤ x8 then (if x8 < (x6.length : Int) then (if x3.length + (rd_L3 x6 x8).length < 140737488355328 then ((some (x3 ++ (rd_L3 x6 x8) : List Int)).bind fun y620 => (if 0 ≤ ((16 - (((rd_L3 x6 x8).length : Int) % 16)) % 16) then (if y620.length + ((16 - (((rd_L3 x6 x8).length : Int) % 16)) % 16 : Int).toNat < 140737488355328 then (aead_filled.l0 k (y620 ++ List.replicate ((16 - (((rd_L3 x6 x8).length : Int) % 16)) % 16 : Int).toNat 0) x6 x7 (wrap64 (x8 + 1))) else (none)) else (none))) else (none)) else (none)) else (none)) else (some x3)

def aead_filled.f (k : Nat) (l0 : List (List Int)) : Option (List Int) := aead_filled.l0 k ([] : List Int) l0 (l0.length : Int) 0

theorem aead_filled.mono_l : ∀ k, (∀ y0 y1 y2 y3, LeO (aead_filled.l0 k y0 y1 y2 y3) (aead_filled.l0 (k + 1) y0 y1 y2 y3))
  | 0 => fun _ _ _ _ r h => by simp [aead_filled.l0] at h
  | k + 1 => by
    have ih0 := aead_filled.mono_l k
    · intro y0 y1 y2 y3
      unfold aead_filled.l0
      repeat' first
      | (with_reducible exact ih0 _ _ _ _)
      | (with_reducible exact LeO.refl _)
      | (with_reducible exact LeO.none _)
      | (with_reducible refine LeO.ite ?_ ?_)
      | (with_reducible refine LeO.bind ?_ (fun _ => ?_))
      | exact ih0 _ _ _ _
      | exact LeO.none _
      | refine LeO.ite ?_ ?_
      | refine LeO.bind ?_ (fun _ => ?_)

theorem aead_filled.mono : ∀ a0 k, LeO (aead_filled.f k a0) (aead_filled.f (k + 1) a0) := by
  intro a0 k
  have ih0 := aead_filled.mono_l k
  unfold aead_filled.f
  repeat' first
      | (with_reducible exact ih0 _ _ _ _)
      | (with_reducible exact LeO.refl _)
      | (with_reducible exact LeO.none _)
      | (with_reducible refine LeO.ite ?_ ?_)
      | (with_reducible refine LeO.bind ?_ (fun _ => ?_))
      | exact ih0 _ _ _ _
      | exact LeO.none _
      | refine LeO.ite ?_ ?_
      | refine LeO.bind ?_ (fun _ => ?_)

/-! ### aead_low: function 71 -/
def aead_low.l0 : Nat → Int → List Int → Int → Option (List Int)
  | 0, _, _, _ => none
  | k + 1, x0, x3, x5 => if x5 < 8 then (if 0 ≤ (wrap64 (8 * x5)) then (if x3.length < 140737488355328 then (aead_low.l0 k x0 (x3 ++ [(shr .u64 (IntKind.u64.wrap (x0)) (wrap64 (8 * x5))) % 256]) (wrap64 (x5 + 1))) else (none)) else (none)) else (some x3)

def aead_low.f (k : Nat) (a0 : Int) : Option (List Int) := aead_low.l0 k a0 ([] : List Int) 0

theorem aead_low.mono_l : ∀ k, (∀ y0 y1 y2, LeO (aead_low.l0 k y0 y1 y2) (aead_low.l0 (k + 1) y0 y1 y2))
  | 0 => fun _ _ _ r h => by simp [aead_low.l0] at h
  | k + 1 => by
    have ih0 := aead_low.mono_l k
    · intro y0 y1 y2
      unfold aead_low.l0
      repeat' first
      | (with_reducible exact ih0 _ _ _)
      | (with_reducible exact LeO.refl _)
      | (with_reducible exact LeO.none _)
      | (with_reducible refine LeO.ite ?_ ?_)
      | (with_reducible refine LeO.bind ?_ (fun _ => ?_))
      | exact ih0 _ _ _
      | exact LeO.none _
      | refine LeO.ite ?_ ?_
      | refine LeO.bind ?_ (fun _ => ?_)

theorem aead_low.mono : ∀ a0 k, LeO (aead_low.f k a0) (aead_low.f (k + 1) a0) := by
  intro a0 k
  have ih0 := aead_low.mono_l k
  unfold aead_low.f
  repeat' first
      | (with_reducible exact ih0 _ _ _)
      | (with_reducible exact LeO.refl _)
      | (with_reducible exact LeO.none _)
      | (with_reducible refine LeO.ite ?_ ?_)
      | (with_reducible refine LeO.bind ?_ (fun _ => ?_))
      | exact ih0 _ _ _
      | exact LeO.none _
      | refine LeO.ite ?_ ?_
      | refine LeO.bind ?_ (fun _ => ?_)

/-! ### aead_tag: function 58 -/
/-- A length in eight bytes, the lowest first (the first i of them). -/
def lowN (n : Int) : Nat → List Int
  | 0 => []
  | i + 1 => lowN n i ++ [shr .u64 (IntKind.u64.wrap n) (8 * (i : Nat)) % 256]
/-- Bytes, filled up with 0. -/
def padB (b : List Int) : List Int := b ++ List.replicate ((16 - ((b.length : Int) % 16)) % 16 : Int).toNat 0
/-- What a tag is made of. -/
def aeadT (a c : List Int) : List Int := padB a ++ padB c ++ padB (lowN (a.length : Int) 8 ++ lowN (c.length : Int) 8)
def aead_tag.f (l0 : List Int) (l1 : List Int) (l2 : List Int) (l3 : List Int) : Option (List Int × Int) := (chacha_Block.f l0 0 l1).bind fun t => if t.2 = 0 then (if 32 ≤ t.1.length ∧ l2.length ≤ 68719476736 ∧ l3.length ≤ 68719476736 then poly_MAC.f (t.1.take 32) (aeadT l2 l3) else none) else some ([], t.2)

/-! ### aead_Seal: function 34 -/
def aead_Seal.f (k : Nat) (l0 : List Int) (l1 : List Int) (l2 : List Int) (l3 : List Int) : Option (List Int × Int) := (chacha_Stream.f k l0 1 l1 l3).bind fun bt632 => (if bt632.2 = 0 then ((aead_tag.f l0 l1 l2 bt632.1).bind fun bt636 => (if bt632.1.length + bt636.1.length < 140737488355328 then (some ((bt632.1 ++ bt636.1), bt636.2)) else (none))) else (some (([] : List Int), bt632.2)))

theorem aead_Seal.mono : ∀ a0 a1 a2 a3 k, LeO (aead_Seal.f k a0 a1 a2 a3) (aead_Seal.f (k + 1) a0 a1 a2 a3) := by
  intro a0 a1 a2 a3 k
  unfold aead_Seal.f
  repeat' first
      | (with_reducible exact chacha_Stream.mono _ _ _ _ _)
      | (with_reducible exact LeO.refl _)
      | (with_reducible exact LeO.none _)
      | (with_reducible refine LeO.ite ?_ ?_)
      | (with_reducible refine LeO.bind ?_ (fun _ => ?_))
      | exact chacha_Stream.mono _ _ _ _ _
      | exact LeO.none _
      | refine LeO.ite ?_ ?_
      | refine LeO.bind ?_ (fun _ => ?_)

/-! ### hmac_Same: function 59 -/
def hmac_Same.l0 : Nat → List Int → List Int → Int → Int → Int → Option (Bool)
  | 0, _, _, _, _, _ => none
  | k + 1, x0, x1, x5, x13, x14 => if x14 < x13 then (if 0 ≤ x14 then (if x14 < (x0.length : Int) then (if x14 < (x1.length : Int) then (hmac_Same.l0 k x0 x1 (Go.bits .or .u8 x5 (Go.bits .xor .u8 (rd x0 x14) (rd x1 x14))) x13 (wrap64 (x14 + 1))) else (none)) else (none)) else (none)) else (some (x5 == 0))

def hmac_Same.f (k : Nat) (l0 : List Int) (l1 : List Int) : Option (Bool) := if (l0.length : Int) = (l1.length : Int) then (hmac_Same.l0 k l0 l1 0 (l0.length : Int) 0) else (some false)

theorem hmac_Same.mono_l : ∀ k, (∀ y0 y1 y2 y3 y4, LeO (hmac_Same.l0 k y0 y1 y2 y3 y4) (hmac_Same.l0 (k + 1) y0 y1 y2 y3 y4))
  | 0 => fun _ _ _ _ _ r h => by simp [hmac_Same.l0] at h
  | k + 1 => by
    have ih0 := hmac_Same.mono_l k
    · intro y0 y1 y2 y3 y4
      unfold hmac_Same.l0
      repeat' first
      | (with_reducible exact ih0 _ _ _ _ _)
      | (with_reducible exact LeO.refl _)
      | (with_reducible exact LeO.none _)
      | (with_reducible refine LeO.ite ?_ ?_)
      | (with_reducible refine LeO.bind ?_ (fun _ => ?_))
      | exact ih0 _ _ _ _ _
      | exact LeO.none _
      | refine LeO.ite ?_ ?_
      | refine LeO.bind ?_ (fun _ => ?_)

theorem hmac_Same.mono : ∀ a0 a1 k, LeO (hmac_Same.f k a0 a1) (hmac_Same.f (k + 1) a0 a1) := by
  intro a0 a1 k
  have ih0 := hmac_Same.mono_l k
  unfold hmac_Same.f
  repeat' first
      | (with_reducible exact ih0 _ _ _ _ _)
      | (with_reducible exact LeO.refl _)
      | (with_reducible exact LeO.none _)
      | (with_reducible refine LeO.ite ?_ ?_)
      | (with_reducible refine LeO.bind ?_ (fun _ => ?_))
      | exact ih0 _ _ _ _ _
      | exact LeO.none _
      | refine LeO.ite ?_ ?_
      | refine LeO.bind ?_ (fun _ => ?_)

/-! ### aead_Open: function 37 -/
def aead_Open.f (k : Nat) (l0 : List Int) (l1 : List Int) (l2 : List Int) (l3 : List Int) : Option (List Int × Int) := if 0 ≤ (mx (wrap64 ((l3.length : Int) - 16)) 0) then (if (mx (wrap64 ((l3.length : Int) - 16)) 0) ≤ (l3.length : Int) then ((aead_tag.f l0 l1 l2 (l3.take ((mx (wrap64 ((l3.length : Int) - 16)) 0) : Int).toNat)).bind fun bt647 => (if bt647.2 = 0 then (if (wrap64 ((l3.length : Int) - 16)) < 0 then (some (([] : List Int), 2)) else (if 0 ≤ (wrap64 ((l3.length : Int) - 16)) then (if (wrap64 ((l3.length : Int) - 16)) ≤ (l3.length : Int) then ((hmac_Same.f k bt647.1 (l3.drop ((wrap64 ((l3.length : Int) - 16)) : Int).toNat)).bind fun t652 => (if t652 = true then ((chacha_Stream.f k l0 1 l1 (l3.take ((wrap64 ((l3.length : Int) - 16)) : Int).toNat)).bind fun bt654 => (some (bt654.1, bt654.2))) else (some (([] : List Int), 5)))) else (none)) else (none))) else (some (([] : List Int), bt647.2)))) else (none)) else (none)

theorem aead_Open.mono : ∀ a0 a1 a2 a3 k, LeO (aead_Open.f k a0 a1 a2 a3) (aead_Open.f (k + 1) a0 a1 a2 a3) := by
  intro a0 a1 a2 a3 k
  unfold aead_Open.f
  repeat' first
      | (with_reducible exact chacha_Stream.mono _ _ _ _ _)
      | (with_reducible exact hmac_Same.mono _ _ _)
      | (with_reducible exact LeO.refl _)
      | (with_reducible exact LeO.none _)
      | (with_reducible refine LeO.ite ?_ ?_)
      | (with_reducible refine LeO.bind ?_ (fun _ => ?_))
      | exact chacha_Stream.mono _ _ _ _ _
      | exact hmac_Same.mono _ _ _
      | exact LeO.none _
      | refine LeO.ite ?_ ?_
      | refine LeO.bind ?_ (fun _ => ?_)

/-! ### casketlaw17_awake: function 33 -/
def casketlaw17_awake.f (k : Nat)  : Option (Bool) := if 32 ≤ 281474976710656 then ((some (List.replicate 32 0 : List Int)).bind fun y658 => (if 12 ≤ (y658.length : Int) then ((aead_Seal.f k y658 (y658.take 12) ([] : List Int) (([97, 98, 99] : List Int))).bind fun bt668 => ((aead_Open.f k y658 (y658.take 12) ([] : List Int) bt668.1).bind fun bt676 => (if 0 ≤ (mn (bt668.1.length : Int) 15) then (if (mn (bt668.1.length : Int) 15) ≤ (bt668.1.length : Int) then ((aead_Open.f k y658 (y658.take 12) ([] : List Int) (bt668.1.take ((mn (bt668.1.length : Int) 15) : Int).toNat)).bind fun bt688 => (if bt668.2 = 0 then (if (bt668.1.length : Int) = 19 then (if bt676.2 = 0 then ((casketlaw17_same.f k bt676.1 (([97, 98, 99] : List Int))).bind fun t695 => (if t695 = true then (some (bt688.2 == 2)) else (some false))) else (some false)) else (some false)) else (some false))) else (none)) else (none)))) else (none))) else (none)

theorem casketlaw17_awake.mono : ∀ k, LeO (casketlaw17_awake.f k ) (casketlaw17_awake.f (k + 1) ) := by
  intro  k
  unfold casketlaw17_awake.f
  repeat' first
      | (with_reducible exact aead_Open.mono _ _ _ _ _)
      | (with_reducible exact aead_Seal.mono _ _ _ _ _)
      | (with_reducible exact casketlaw17_same.mono _ _ _)
      | (with_reducible exact LeO.refl _)
      | (with_reducible exact LeO.none _)
      | (with_reducible refine LeO.ite ?_ ?_)
      | (with_reducible refine LeO.bind ?_ (fun _ => ?_))
      | exact aead_Open.mono _ _ _ _ _
      | exact aead_Seal.mono _ _ _ _ _
      | exact casketlaw17_same.mono _ _ _
      | exact LeO.none _
      | refine LeO.ite ?_ ?_
      | refine LeO.bind ?_ (fun _ => ?_)

end Go.Proofs.Ytllaobhheokafaa.Q
