/- The pure functions (plain Lean over whole numbers and lists) of: casketref15_rot, casketref15_Quarter, casketref15_words, casketref15_turn, casketref15_Block, casketref01_Same, casketlaw15_same, casketref15_Stream, casketlaw16_same, casketlaw17_same. -/
import Derived.Test.YtllaobhheokafaaWWords
import Derived.Test.YtllaobhheokafaaWAll
import Derived.Test.YtllaobhheokafaaDchacha
namespace Go.Proofs.Ytllaobhheokafaa.Q
open Go.RowKit Go.Proofs.YtllaobhheokafaaW.PrintWords Go.Proofs.YtllaobhheokafaaW.PrintLast Go.Proofs.YtllaobhheokafaaW.PrintMore
attribute [local go_sem] max2_int min2_int max_two min_two max_three min_three max_four min_four   -- for this text's walks alone
set_option linter.unusedVariables false
set_option linter.unusedSimpArgs false

/-! ### casketref15_rot: function 41 -/
def casketref15_rot.f (a0 : Int) (a1 : Int) : Option (Int) := if 0 ≤ a1 then (if 0 ≤ (IntKind.u64.wrap (32 - a1)) then (some (Go.bits .or .u32 (shl .u32 a0 a1) (shr .u32 a0 (IntKind.u64.wrap (32 - a1))))) else (none)) else (none)

/-! ### casketref15_Quarter: function 22 -/
def casketref15_Quarter.f (a0 : Int) (a1 : Int) (a2 : Int) (a3 : Int) : Option (Int × Int × Int × Int) := (casketref15_rot.f (Go.bits .xor .u32 a3 ((a0 + a1) % 4294967296)) 16).bind fun t109 => ((casketref15_rot.f (Go.bits .xor .u32 a1 ((a2 + t109) % 4294967296)) 12).bind fun t110 => ((casketref15_rot.f (Go.bits .xor .u32 t109 ((((a0 + a1) % 4294967296) + t110) % 4294967296)) 8).bind fun t111 => ((casketref15_rot.f (Go.bits .xor .u32 t110 ((((a2 + t109) % 4294967296) + t111) % 4294967296)) 7).bind fun t112 => (some ((((a0 + a1) % 4294967296) + t110) % 4294967296, t112, (((a2 + t109) % 4294967296) + t111) % 4294967296, t111)))))

theorem refrot_n (x n : Int) (h : n = 16 ∨ n = 12 ∨ n = 8 ∨ n = 7) : casketref15_rot.f x n = some (rotl x n) := by
  rcases h with rfl | rfl | rfl | rfl <;> rfl
theorem refquarter_f (a b c d : Int) : casketref15_Quarter.f a b c d = some (qrA a b c d, qrB a b c d, qrC a b c d, qrD a b c d) := by
  unfold casketref15_Quarter.f
  rw [refrot_n _ _ (by decide)]; simp only [Option.bind_some]
  rw [refrot_n _ _ (by decide)]; simp only [Option.bind_some]
  rw [refrot_n _ _ (by decide)]; simp only [Option.bind_some]
  rw [refrot_n _ _ (by decide)]; simp only [Option.bind_some]
  simp only [Int.emod_add_emod]
  rfl

/-! ### casketref15_words: function 44 -/
def casketref15_words.l0 : Nat → List Int → List Int → Int → Option (List Int)
  | 0, _, _, _ => none
  | k + 1, x0, x3, x4 => if (wrap64 (x4 + 3)) < (x0.length : Int) then (if 0 ≤ x4 then (if x4 < (x0.length : Int) then (if 0 ≤ (wrap64 (x4 + 1)) then (if (wrap64 (x4 + 1)) < (x0.length : Int) then (if 0 ≤ (wrap64 (x4 + 2)) then (if (wrap64 (x4 + 2)) < (x0.length : Int) then (if 0 ≤ (wrap64 (x4 + 3)) then (if x3.length < 35184372088832 then (casketref15_words.l0 k x0 (x3 ++ [Go.bits .or .u32 (Go.bits .or .u32 (Go.bits .or .u32 ((rd x0 x4) % 4294967296) ((((rd x0 (wrap64 (x4 + 1))) % 4294967296) * 256) % 4294967296)) ((((rd x0 (wrap64 (x4 + 2))) % 4294967296) * 65536) % 4294967296)) ((((rd x0 (wrap64 (x4 + 3))) % 4294967296) * 16777216) % 4294967296)]) (wrap64 (x4 + 4))) else (none)) else (none)) else (none)) else (none)) else (none)) else (none)) else (none)) else (none)) else (some x3)

def casketref15_words.f (k : Nat) (l0 : List Int) : Option (List Int) := casketref15_words.l0 k l0 ([] : List Int) 0

theorem casketref15_words.mono_l : ∀ k, (∀ y0 y1 y2, LeO (casketref15_words.l0 k y0 y1 y2) (casketref15_words.l0 (k + 1) y0 y1 y2))
  | 0 => fun _ _ _ r h => by simp [casketref15_words.l0] at h
  | k + 1 => by
    have ih0 := casketref15_words.mono_l k
    · intro y0 y1 y2
      unfold casketref15_words.l0
      repeat' first
      | (with_reducible exact ih0 _ _ _)
      | (with_reducible exact LeO.refl _)
      | (with_reducible exact LeO.none _)
      | (with_reducible refine LeO.ite ?_ ?_)
      | (with_reducible refine LeO.bind ?_ (fun _ => ?_))
      | exact ih0 _ _ _
      | exact LeO.none _
      | refine LeO.ite ?_ ?_
      | refine LeO.bind ?_ (fun _ => ?_)

theorem casketref15_words.mono : ∀ a0 k, LeO (casketref15_words.f k a0) (casketref15_words.f (k + 1) a0) := by
  intro a0 k
  have ih0 := casketref15_words.mono_l k
  unfold casketref15_words.f
  repeat' first
      | (with_reducible exact ih0 _ _ _)
      | (with_reducible exact LeO.refl _)
      | (with_reducible exact LeO.none _)
      | (with_reducible refine LeO.ite ?_ ?_)
      | (with_reducible refine LeO.bind ?_ (fun _ => ?_))
      | exact ih0 _ _ _
      | exact LeO.none _
      | refine LeO.ite ?_ ?_
      | refine LeO.bind ?_ (fun _ => ?_)

/-! ### casketref15_turn: function 45 -/
def casketref15_turn.f (l0 : List Int) (a1 : Int) (a2 : Int) (a3 : Int) (a4 : Int) : Option (List Int) := if 0 ≤ a1 then (if a1 < (l0.length : Int) then (if 0 ≤ a2 then (if a2 < (l0.length : Int) then (if 0 ≤ a3 then (if a3 < (l0.length : Int) then (if 0 ≤ a4 then (if a4 < (l0.length : Int) then ((casketref15_Quarter.f (rd l0 a1) (rd l0 a2) (rd l0 a3) (rd l0 a4)).bind fun bt131 => (some ((((l0.set (a1 : Int).toNat bt131.1).set (a2 : Int).toNat bt131.2.1).set (a3 : Int).toNat bt131.2.2.1).set (a4 : Int).toNat bt131.2.2.2))) else (none)) else (none)) else (none)) else (none)) else (none)) else (none)) else (none)) else (none)

theorem refturn_f (l0 : List Int) (a1 a2 a3 a4 : Int) (i0 : 0 ≤ a1) (i1 : a1 < (l0.length : Int)) (j0 : 0 ≤ a2) (j1 : a2 < (l0.length : Int)) (k0 : 0 ≤ a3) (k1 : a3 < (l0.length : Int)) (m0 : 0 ≤ a4) (m1 : a4 < (l0.length : Int)) :
    casketref15_turn.f l0 a1 a2 a3 a4 = some ((((l0.set a1.toNat (qrA (rd l0 a1) (rd l0 a2) (rd l0 a3) (rd l0 a4))).set a2.toNat (qrB (rd l0 a1) (rd l0 a2) (rd l0 a3) (rd l0 a4))).set a3.toNat (qrC (rd l0 a1) (rd l0 a2) (rd l0 a3) (rd l0 a4))).set a4.toNat (qrD (rd l0 a1) (rd l0 a2) (rd l0 a3) (rd l0 a4))) := by
  unfold casketref15_turn.f
  rw [if_pos i0, if_pos i1, if_pos j0, if_pos j1, if_pos k0, if_pos k1, if_pos m0, if_pos m1, refquarter_f]
  rfl

/-! ### casketref15_Block: function 24 -/
mutual

def casketref15_Block.j0 : Nat → List Int → Int → List Int → Bool → Option (List Int × Int)
  | 0, _, _, _, _ => none
  | k + 1, x0, x1, x2, x21 => if x21 = true then (some (([] : List Int), 1)) else ((some (([1634760805, 857760878, 2036477234, 1797285236] : List Int) : List Int)).bind fun y139 => ((casketref15_words.f k x0).bind fun t142 => (if y139.length + t142.length < 35184372088832 then ((some (y139 ++ t142 : List Int)).bind fun y145 => (if y145.length < 35184372088832 then ((some (y145 ++ [x1] : List Int)).bind fun y148 => ((casketref15_words.f k x2).bind fun t151 => (if y148.length + t151.length < 35184372088832 then ((some (y148 ++ t151 : List Int)).bind fun y154 => ((some (([] : List Int) : List Int)).bind fun y157 => (if y157.length + y154.length < 35184372088832 then (casketref15_Block.l0 k y154 (y157 ++ y154) 0) else (none)))) else (none)))) else (none))) else (none))))

def casketref15_Block.l0 : Nat → List Int → List Int → Int → Option (List Int × Int)
  | 0, _, _, _ => none
  | k + 1, x8, x9, x10 => if x10 < 10 then ((casketref15_turn.f x9 0 4 8 12).bind fun t163 => ((casketref15_turn.f t163 1 5 9 13).bind fun t164 => ((casketref15_turn.f t164 2 6 10 14).bind fun t165 => ((casketref15_turn.f t165 3 7 11 15).bind fun t166 => ((casketref15_turn.f t166 0 5 10 15).bind fun t167 => ((casketref15_turn.f t167 1 6 11 12).bind fun t168 => ((casketref15_turn.f t168 2 7 8 13).bind fun t169 => ((casketref15_turn.f t169 3 4 9 14).bind fun t170 => (casketref15_Block.l0 k x8 t170 (wrap64 (x10 + 1))))))))))) else (casketref15_Block.l1 k x8 x9 ([] : List Int) 0)

def casketref15_Block.l1 : Nat → List Int → List Int → List Int → Int → Option (List Int × Int)
  | 0, _, _, _, _ => none
  | k + 1, x8, x9, x11, x12 => if x12 < 16 then (if 0 ≤ x12 then (if x12 < (x9.length : Int) then (if x12 < (x8.length : Int) then ((some (([(((rd x9 x12) + (rd x8 x12)) % 4294967296) % 256, ((((rd x9 x12) + (rd x8 x12)) % 4294967296) / 256) % 256, ((((rd x9 x12) + (rd x8 x12)) % 4294967296) / 65536) % 256, (((rd x9 x12) + (rd x8 x12)) % 4294967296) / 16777216] : List Int) : List Int)).bind fun y173 => (if x11.length + y173.length < 140737488355328 then (casketref15_Block.l1 k x8 x9 (x11 ++ y173) (wrap64 (x12 + 1))) else (none))) else (none)) else (none)) else (none)) else (some (x11, 0))
end

def casketref15_Block.f (k : Nat) (l0 : List Int) (a1 : Int) (l2 : List Int) : Option (List Int × Int) := if (l0.length : Int) = 32 then (casketref15_Block.j0 k l0 a1 l2 ((l2.length : Int) != 12)) else (casketref15_Block.j0 k l0 a1 l2 true)

theorem casketref15_Block.mono_l : ∀ k, (∀ y0 y1 y2 y3, LeO (casketref15_Block.j0 k y0 y1 y2 y3) (casketref15_Block.j0 (k + 1) y0 y1 y2 y3)) ∧ (∀ y0 y1 y2, LeO (casketref15_Block.l0 k y0 y1 y2) (casketref15_Block.l0 (k + 1) y0 y1 y2)) ∧ (∀ y0 y1 y2 y3, LeO (casketref15_Block.l1 k y0 y1 y2 y3) (casketref15_Block.l1 (k + 1) y0 y1 y2 y3))
  | 0 => ⟨fun _ _ _ _ r h => by simp [casketref15_Block.j0] at h, fun _ _ _ r h => by simp [casketref15_Block.l0] at h, fun _ _ _ _ r h => by simp [casketref15_Block.l1] at h⟩
  | k + 1 => by
    obtain ⟨ih0, ih1, ih2⟩ := casketref15_Block.mono_l k
    refine ⟨?_, ?_, ?_⟩
    · intro y0 y1 y2 y3
      unfold casketref15_Block.j0
      repeat' first
      | (with_reducible exact ih0 _ _ _ _)
      | (with_reducible exact ih1 _ _ _)
      | (with_reducible exact ih2 _ _ _ _)
      | (with_reducible exact casketref15_words.mono _ _)
      | (with_reducible exact LeO.refl _)
      | (with_reducible exact LeO.none _)
      | (with_reducible refine LeO.ite ?_ ?_)
      | (with_reducible refine LeO.bind ?_ (fun _ => ?_))
      | exact ih0 _ _ _ _
      | exact ih1 _ _ _
      | exact ih2 _ _ _ _
      | exact casketref15_words.mono _ _
      | exact LeO.none _
      | refine LeO.ite ?_ ?_
      | refine LeO.bind ?_ (fun _ => ?_)
    · intro y0 y1 y2
      unfold casketref15_Block.l0
      repeat' first
      | (with_reducible exact ih0 _ _ _ _)
      | (with_reducible exact ih1 _ _ _)
      | (with_reducible exact ih2 _ _ _ _)
      | (with_reducible exact casketref15_words.mono _ _)
      | (with_reducible exact LeO.refl _)
      | (with_reducible exact LeO.none _)
      | (with_reducible refine LeO.ite ?_ ?_)
      | (with_reducible refine LeO.bind ?_ (fun _ => ?_))
      | exact ih0 _ _ _ _
      | exact ih1 _ _ _
      | exact ih2 _ _ _ _
      | exact casketref15_words.mono _ _
      | exact LeO.none _
      | refine LeO.ite ?_ ?_
      | refine LeO.bind ?_ (fun _ => ?_)
    · intro y0 y1 y2 y3
      unfold casketref15_Block.l1
      repeat' first
      | (with_reducible exact ih0 _ _ _ _)
      | (with_reducible exact ih1 _ _ _)
      | (with_reducible exact ih2 _ _ _ _)
      | (with_reducible exact casketref15_words.mono _ _)
      | (with_reducible exact LeO.refl _)
      | (with_reducible exact LeO.none _)
      | (with_reducible refine LeO.ite ?_ ?_)
      | (with_reducible refine LeO.bind ?_ (fun _ => ?_))
      | exact ih0 _ _ _ _
      | exact ih1 _ _ _
      | exact ih2 _ _ _ _
      | exact casketref15_words.mono _ _
      | exact LeO.none _
      | refine LeO.ite ?_ ?_
      | refine LeO.bind ?_ (fun _ => ?_)

theorem casketref15_Block.mono : ∀ a0 a1 a2 k, LeO (casketref15_Block.f k a0 a1 a2) (casketref15_Block.f (k + 1) a0 a1 a2) := by
  intro a0 a1 a2 k
  obtain ⟨ih0, ih1, ih2⟩ := casketref15_Block.mono_l k
  unfold casketref15_Block.f
  repeat' first
      | (with_reducible exact ih0 _ _ _ _)
      | (with_reducible exact ih1 _ _ _)
      | (with_reducible exact ih2 _ _ _ _)
      | (with_reducible exact casketref15_words.mono _ _)
      | (with_reducible exact LeO.refl _)
      | (with_reducible exact LeO.none _)
      | (with_reducible refine LeO.ite ?_ ?_)
      | (with_reducible refine LeO.bind ?_ (fun _ => ?_))
      | exact ih0 _ _ _ _
      | exact ih1 _ _ _
      | exact ih2 _ _ _ _
      | exact casketref15_words.mono _ _
      | exact LeO.none _
      | refine LeO.ite ?_ ?_
      | refine LeO.bind ?_ (fun _ => ?_)

/-! ### casketref01_Same: function 46 -/
def casketref01_Same.l0 : Nat → List Int → List Int → Int → Option (Bool)
  | 0, _, _, _ => none
  | k + 1, x0, x1, x5 => if x5 < (x0.length : Int) then (if 0 ≤ x5 then (if x5 < (x1.length : Int) then (if (rd x0 x5) = (rd x1 x5) then (casketref01_Same.l0 k x0 x1 (wrap64 (x5 + 1))) else (some false)) else (none)) else (none)) else (some true)

def casketref01_Same.f (k : Nat) (l0 : List Int) (l1 : List Int) : Option (Bool) := if (l0.length : Int) = (l1.length : Int) then (casketref01_Same.l0 k l0 l1 0) else (some false)

theorem casketref01_Same.mono_l : ∀ k, (∀ y0 y1 y2, LeO (casketref01_Same.l0 k y0 y1 y2) (casketref01_Same.l0 (k + 1) y0 y1 y2))
  | 0 => fun _ _ _ r h => by simp [casketref01_Same.l0] at h
  | k + 1 => by
    have ih0 := casketref01_Same.mono_l k
    · intro y0 y1 y2
      unfold casketref01_Same.l0
      repeat' first
      | (with_reducible exact ih0 _ _ _)
      | (with_reducible exact LeO.refl _)
      | (with_reducible exact LeO.none _)
      | (with_reducible refine LeO.ite ?_ ?_)
      | (with_reducible refine LeO.bind ?_ (fun _ => ?_))
      | exact ih0 _ _ _
      | exact LeO.none _
      | refine LeO.ite ?_ ?_
      | refine LeO.bind ?_ (fun _ => ?_)

theorem casketref01_Same.mono : ∀ a0 a1 k, LeO (casketref01_Same.f k a0 a1) (casketref01_Same.f (k + 1) a0 a1) := by
  intro a0 a1 k
  have ih0 := casketref01_Same.mono_l k
  unfold casketref01_Same.f
  repeat' first
      | (with_reducible exact ih0 _ _ _)
      | (with_reducible exact LeO.refl _)
      | (with_reducible exact LeO.none _)
      | (with_reducible refine LeO.ite ?_ ?_)
      | (with_reducible refine LeO.bind ?_ (fun _ => ?_))
      | exact ih0 _ _ _
      | exact LeO.none _
      | refine LeO.ite ?_ ?_
      | refine LeO.bind ?_ (fun _ => ?_)

/-! ### casketlaw15_same: function 25 -/
def casketlaw15_same.f (k : Nat) (l0 : List Int) (l1 : List Int) : Option (Bool) := (casketref01_Same.f k l0 l1).bind fun t181 => (some t181)

theorem casketlaw15_same.mono : ∀ a0 a1 k, LeO (casketlaw15_same.f k a0 a1) (casketlaw15_same.f (k + 1) a0 a1) := by
  intro a0 a1 k
  unfold casketlaw15_same.f
  repeat' first
      | (with_reducible exact casketref01_Same.mono _ _ _)
      | (with_reducible exact LeO.refl _)
      | (with_reducible exact LeO.none _)
      | (with_reducible refine LeO.ite ?_ ?_)
      | (with_reducible refine LeO.bind ?_ (fun _ => ?_))
      | exact casketref01_Same.mono _ _ _
      | exact LeO.none _
      | refine LeO.ite ?_ ?_
      | refine LeO.bind ?_ (fun _ => ?_)

/-! ### casketref15_Stream: function 27 -/
mutual

def casketref15_Stream.j0 : Nat → List Int → Int → List Int → List Int → Bool → Option (List Int × Int)
  | 0, _, _, _, _, _ => none
  | k + 1, x0, x1, x2, x3, x23 => if x23 = true then (some (([] : List Int), 1)) else (casketref15_Stream.l0 k x0 x2 x3 ([] : List Int) (IntKind.u64.wrap (x1)) 0)

def casketref15_Stream.l0 : Nat → List Int → List Int → List Int → List Int → Int → Int → Option (List Int × Int)
  | 0, _, _, _, _, _, _ => none
  | k + 1, x0, x2, x3, x10, x11, x12 => if x12 < (x3.length : Int) then (if (IntKind.u64.wrap (x11 + (IntKind.u64.wrap (wrap64 (Int.tdiv x12 64))))) > 4294967295 then (some (([] : List Int), 4)) else (if (Int.tmod x12 64) = 0 then ((casketref15_Block.f k x0 ((IntKind.u64.wrap (x11 + (IntKind.u64.wrap (wrap64 (Int.tdiv x12 64))))) % 4294967296) x2).bind fun bt203 => (casketref15_Stream.l1 k x0 x2 x3 x10 x11 x12 bt203.1 0)) else (casketref15_Stream.l0 k x0 x2 x3 x10 x11 (wrap64 (x12 + 1))))) else (some (x10, 0))

def casketref15_Stream.l1 : Nat → List Int → List Int → List Int → List Int → Int → Int → List Int → Int → Option (List Int × Int)
  | 0, _, _, _, _, _, _, _, _ => none
  | k + 1, x0, x2, x3, x10, x11, x12, x13, x15 => if x15 < 64 then (if (wrap64 (x12 + x15)) < (x3.length : Int) then (if 0 ≤ (wrap64 (x12 + x15)) then (if 0 ≤ x15 then (if x15 < (x13.length : Int) then (if x10.length < 140737488355328 then (casketref15_Stream.l1 k x0 x2 x3 (x10 ++ [Go.bits .xor .u8 (rd x3 (wrap64 (x12 + x15))) (rd x13 x15)]) x11 x12 x13 (wrap64 (x15 + 1))) else (none)) else (none)) else (none)) else (none)) else (casketref15_Stream.l0 k x0 x2 x3 x10 x11 (wrap64 (x12 + 1)))) else (casketref15_Stream.l0 k x0 x2 x3 x10 x11 (wrap64 (x12 + 1)))
end

def casketref15_Stream.f (k : Nat) (l0 : List Int) (a1 : Int) (l2 : List Int) (l3 : List Int) : Option (List Int × Int) := if (l0.length : Int) = 32 then (casketref15_Stream.j0 k l0 a1 l2 l3 ((l2.length : Int) != 12)) else (casketref15_Stream.j0 k l0 a1 l2 l3 true)

theorem casketref15_Stream.mono_l : ∀ k, (∀ y0 y1 y2 y3 y4, LeO (casketref15_Stream.j0 k y0 y1 y2 y3 y4) (casketref15_Stream.j0 (k + 1) y0 y1 y2 y3 y4)) ∧ (∀ y0 y1 y2 y3 y4 y5, LeO (casketref15_Stream.l0 k y0 y1 y2 y3 y4 y5) (casketref15_Stream.l0 (k + 1) y0 y1 y2 y3 y4 y5)) ∧ (∀ y0 y1 y2 y3 y4 y5 y6 y7, LeO (casketref15_Stream.l1 k y0 y1 y2 y3 y4 y5 y6 y7) (casketref15_Stream.l1 (k + 1) y0 y1 y2 y3 y4 y5 y6 y7))
  | 0 => ⟨fun _ _ _ _ _ r h => by simp [casketref15_Stream.j0] at h, fun _ _ _ _ _ _ r h => by simp [casketref15_Stream.l0] at h, fun _ _ _ _ _ _ _ _ r h => by simp [casketref15_Stream.l1] at h⟩
  | k + 1 => by
    obtain ⟨ih0, ih1, ih2⟩ := casketref15_Stream.mono_l k
    refine ⟨?_, ?_, ?_⟩
    · intro y0 y1 y2 y3 y4
      unfold casketref15_Stream.j0
      repeat' first
      | (with_reducible exact ih0 _ _ _ _ _)
      | (with_reducible exact ih1 _ _ _ _ _ _)
      | (with_reducible exact ih2 _ _ _ _ _ _ _ _)
      | (with_reducible exact casketref15_Block.mono _ _ _ _)
      | (with_reducible exact LeO.refl _)
      | (with_reducible exact LeO.none _)
      | (with_reducible refine LeO.ite ?_ ?_)
      | (with_reducible refine LeO.bind ?_ (fun _ => ?_))
      | exact ih0 _ _ _ _ _
      | exact ih1 _ _ _ _ _ _
      | exact ih2 _ _ _ _ _ _ _ _
      | exact casketref15_Block.mono _ _ _ _
      | exact LeO.none _
      | refine LeO.ite ?_ ?_
      | refine LeO.bind ?_ (fun _ => ?_)
    · intro y0 y1 y2 y3 y4 y5
      unfold casketref15_Stream.l0
      repeat' first
      | (with_reducible exact ih0 _ _ _ _ _)
      | (with_reducible exact ih1 _ _ _ _ _ _)
      | (with_reducible exact ih2 _ _ _ _ _ _ _ _)
      | (with_reducible exact casketref15_Block.mono _ _ _ _)
      | (with_reducible exact LeO.refl _)
      | (with_reducible exact LeO.none _)
      | (with_reducible refine LeO.ite ?_ ?_)
      | (with_reducible refine LeO.bind ?_ (fun _ => ?_))
      | exact ih0 _ _ _ _ _
      | exact ih1 _ _ _ _ _ _
      | exact ih2 _ _ _ _ _ _ _ _
      | exact casketref15_Block.mono _ _ _ _
      | exact LeO.none _
      | refine LeO.ite ?_ ?_
      | refine LeO.bind ?_ (fun _ => ?_)
    · intro y0 y1 y2 y3 y4 y5 y6 y7
      unfold casketref15_Stream.l1
      repeat' first
      | (with_reducible exact ih0 _ _ _ _ _)
      | (with_reducible exact ih1 _ _ _ _ _ _)
      | (with_reducible exact ih2 _ _ _ _ _ _ _ _)
      | (with_reducible exact casketref15_Block.mono _ _ _ _)
      | (with_reducible exact LeO.refl _)
      | (with_reducible exact LeO.none _)
      | (with_reducible refine LeO.ite ?_ ?_)
      | (with_reducible refine LeO.bind ?_ (fun _ => ?_))
      | exact ih0 _ _ _ _ _
      | exact ih1 _ _ _ _ _ _
      | exact ih2 _ _ _ _ _ _ _ _
      | exact casketref15_Block.mono _ _ _ _
      | exact LeO.none _
      | refine LeO.ite ?_ ?_
      | refine LeO.bind ?_ (fun _ => ?_)

theorem casketref15_Stream.mono : ∀ a0 a1 a2 a3 k, LeO (casketref15_Stream.f k a0 a1 a2 a3) (casketref15_Stream.f (k + 1) a0 a1 a2 a3) := by
  intro a0 a1 a2 a3 k
  obtain ⟨ih0, ih1, ih2⟩ := casketref15_Stream.mono_l k
  unfold casketref15_Stream.f
  repeat' first
      | (with_reducible exact ih0 _ _ _ _ _)
      | (with_reducible exact ih1 _ _ _ _ _ _)
      | (with_reducible exact ih2 _ _ _ _ _ _ _ _)
      | (with_reducible exact casketref15_Block.mono _ _ _ _)
      | (with_reducible exact LeO.refl _)
      | (with_reducible exact LeO.none _)
      | (with_reducible refine LeO.ite ?_ ?_)
      | (with_reducible refine LeO.bind ?_ (fun _ => ?_))
      | exact ih0 _ _ _ _ _
      | exact ih1 _ _ _ _ _ _
      | exact ih2 _ _ _ _ _ _ _ _
      | exact casketref15_Block.mono _ _ _ _
      | exact LeO.none _
      | refine LeO.ite ?_ ?_
      | refine LeO.bind ?_ (fun _ => ?_)

/-! ### casketlaw16_same: function 31 -/
def casketlaw16_same.f (k : Nat) (l0 : List Int) (l1 : List Int) : Option (Bool) := (casketref01_Same.f k l0 l1).bind fun t464 => (some t464)

theorem casketlaw16_same.mono : ∀ a0 a1 k, LeO (casketlaw16_same.f k a0 a1) (casketlaw16_same.f (k + 1) a0 a1) := by
  intro a0 a1 k
  unfold casketlaw16_same.f
  repeat' first
      | (with_reducible exact casketref01_Same.mono _ _ _)
      | (with_reducible exact LeO.refl _)
      | (with_reducible exact LeO.none _)
      | (with_reducible refine LeO.ite ?_ ?_)
      | (with_reducible refine LeO.bind ?_ (fun _ => ?_))
      | exact casketref01_Same.mono _ _ _
      | exact LeO.none _
      | refine LeO.ite ?_ ?_
      | refine LeO.bind ?_ (fun _ => ?_)

/-! ### casketlaw17_same: function 36 -/
def casketlaw17_same.f (k : Nat) (l0 : List Int) (l1 : List Int) : Option (Bool) := (casketref01_Same.f k l0 l1).bind fun t643 => (some t643)

theorem casketlaw17_same.mono : ∀ a0 a1 k, LeO (casketlaw17_same.f k a0 a1) (casketlaw17_same.f (k + 1) a0 a1) := by
  intro a0 a1 k
  unfold casketlaw17_same.f
  repeat' first
      | (with_reducible exact casketref01_Same.mono _ _ _)
      | (with_reducible exact LeO.refl _)
      | (with_reducible exact LeO.none _)
      | (with_reducible refine LeO.ite ?_ ?_)
      | (with_reducible refine LeO.bind ?_ (fun _ => ?_))
      | exact casketref01_Same.mono _ _ _
      | exact LeO.none _
      | refine LeO.ite ?_ ?_
      | refine LeO.bind ?_ (fun _ => ?_)

end Go.Proofs.Ytllaobhheokafaa.Q
