/- The pure functions (plain Lean over whole numbers and lists) of: casketref17_full, casketref17_length, casketref17_Tag, casketref17_Seal, casketref17_Open. -/
import Derived.Test.YtllaobhheokafaaWWords
import Derived.Test.YtllaobhheokafaaWAll
import Derived.Test.YtllaobhheokafaaDref15
import Derived.Test.YtllaobhheokafaaDref16
namespace Go.Proofs.Ytllaobhheokafaa.Q
open Go.RowKit Go.Proofs.YtllaobhheokafaaW.PrintWords Go.Proofs.YtllaobhheokafaaW.PrintLast Go.Proofs.YtllaobhheokafaaW.PrintMore
attribute [local go_sem] max2_int min2_int max_two min_two max_three min_three max_four min_four   -- for this text's walks alone
set_option linter.unusedVariables false
set_option linter.unusedSimpArgs false

/-! ### casketref17_full: function 60 -/
def casketref17_full.l0 : Nat → List Int → Int → Option (List Int)
  | 0, _, _ => none
  | k + 1, x0, x5 => if (Int.tmod x5 16) = 0 then (some x0) else (if x0.length < 140737488355328 then (casketref17_full.l0 k (x0 ++ [0]) (wrap64 (x5 + 1))) else (none))

def casketref17_full.f (k : Nat) (l0 : List Int) (l1 : List Int) : Option (List Int) := if l0.length + l1.length < 140737488355328 then (casketref17_full.l0 k (l0 ++ l1) (l1.length : Int)) else (none)

theorem casketref17_full.mono_l : ∀ k, (∀ y0 y1, LeO (casketref17_full.l0 k y0 y1) (casketref17_full.l0 (k + 1) y0 y1))
  | 0 => fun _ _ r h => by simp [casketref17_full.l0] at h
  | k + 1 => by
    have ih0 := casketref17_full.mono_l k
    · intro y0 y1
      unfold casketref17_full.l0
      repeat' first
      | (with_reducible exact ih0 _ _)
      | (with_reducible exact LeO.refl _)
      | (with_reducible exact LeO.none _)
      | (with_reducible refine LeO.ite ?_ ?_)
      | (with_reducible refine LeO.bind ?_ (fun _ => ?_))
      | exact ih0 _ _
      | exact LeO.none _
      | refine LeO.ite ?_ ?_
      | refine LeO.bind ?_ (fun _ => ?_)

theorem casketref17_full.mono : ∀ a0 a1 k, LeO (casketref17_full.f k a0 a1) (casketref17_full.f (k + 1) a0 a1) := by
  intro a0 a1 k
  have ih0 := casketref17_full.mono_l k
  unfold casketref17_full.f
  repeat' first
      | (with_reducible exact ih0 _ _)
      | (with_reducible exact LeO.refl _)
      | (with_reducible exact LeO.none _)
      | (with_reducible refine LeO.ite ?_ ?_)
      | (with_reducible refine LeO.bind ?_ (fun _ => ?_))
      | exact ih0 _ _
      | exact LeO.none _
      | refine LeO.ite ?_ ?_
      | refine LeO.bind ?_ (fun _ => ?_)

/-! ### casketref17_length: function 61 -/
def casketref17_length.l0 : Nat → List Int → Int → Int → Option (List Int)
  | 0, _, _, _ => none
  | k + 1, x0, x1, x5 => if x5 < 8 then (if 0 ≤ (IntKind.u64.wrap (wrap64 (8 * x5))) then (if x0.length < 140737488355328 then (casketref17_length.l0 k (x0 ++ [(shr .u64 (IntKind.u64.wrap (x1)) (IntKind.u64.wrap (wrap64 (8 * x5)))) % 256]) x1 (wrap64 (x5 + 1))) else (none)) else (none)) else (some x0)

def casketref17_length.f (k : Nat) (l0 : List Int) (a1 : Int) : Option (List Int) := casketref17_length.l0 k l0 a1 0

theorem casketref17_length.mono_l : ∀ k, (∀ y0 y1 y2, LeO (casketref17_length.l0 k y0 y1 y2) (casketref17_length.l0 (k + 1) y0 y1 y2))
  | 0 => fun _ _ _ r h => by simp [casketref17_length.l0] at h
  | k + 1 => by
    have ih0 := casketref17_length.mono_l k
    · intro y0 y1 y2
      unfold casketref17_length.l0
      repeat' first
      | (with_reducible exact ih0 _ _ _)
      | (with_reducible exact LeO.refl _)
      | (with_reducible exact LeO.none _)
      | (with_reducible refine LeO.ite ?_ ?_)
      | (with_reducible refine LeO.bind ?_ (fun _ => ?_))
      | exact ih0 _ _ _
      | exact LeO.none _
      | refine LeO.ite ?_ ?_
      | refine LeO.bind ?_ (fun _ => ?_)

theorem casketref17_length.mono : ∀ a0 a1 k, LeO (casketref17_length.f k a0 a1) (casketref17_length.f (k + 1) a0 a1) := by
  intro a0 a1 k
  have ih0 := casketref17_length.mono_l k
  unfold casketref17_length.f
  repeat' first
      | (with_reducible exact ih0 _ _ _)
      | (with_reducible exact LeO.refl _)
      | (with_reducible exact LeO.none _)
      | (with_reducible refine LeO.ite ?_ ?_)
      | (with_reducible refine LeO.bind ?_ (fun _ => ?_))
      | exact ih0 _ _ _
      | exact LeO.none _
      | refine LeO.ite ?_ ?_
      | refine LeO.bind ?_ (fun _ => ?_)

/-! ### casketref17_Tag: function 39 -/
def casketref17_Tag.f (k : Nat) (l0 : List Int) (l1 : List Int) (l2 : List Int) (l3 : List Int) : Option (List Int) := (casketref15_Block.f k l0 0 l1).bind fun bt705 => ((casketref17_full.f k ([] : List Int) l2).bind fun t709 => ((casketref17_full.f k t709 l3).bind fun t712 => ((casketref17_length.f k t712 (l2.length : Int)).bind fun t715 => ((casketref17_length.f k t715 (l3.length : Int)).bind fun t718 => (if 32 ≤ (bt705.1.length : Int) then ((casketref16_MAC.f k (bt705.1.take 32) t718).bind fun bt725 => (some bt725.1)) else (none))))))

theorem casketref17_Tag.mono : ∀ a0 a1 a2 a3 k, LeO (casketref17_Tag.f k a0 a1 a2 a3) (casketref17_Tag.f (k + 1) a0 a1 a2 a3) := by
  intro a0 a1 a2 a3 k
  unfold casketref17_Tag.f
  repeat' first
      | (with_reducible exact casketref15_Block.mono _ _ _ _)
      | (with_reducible exact casketref16_MAC.mono _ _ _)
      | (with_reducible exact casketref17_full.mono _ _ _)
      | (with_reducible exact casketref17_length.mono _ _ _)
      | (with_reducible exact LeO.refl _)
      | (with_reducible exact LeO.none _)
      | (with_reducible refine LeO.ite ?_ ?_)
      | (with_reducible refine LeO.bind ?_ (fun _ => ?_))
      | exact casketref15_Block.mono _ _ _ _
      | exact casketref16_MAC.mono _ _ _
      | exact casketref17_full.mono _ _ _
      | exact casketref17_length.mono _ _ _
      | exact LeO.none _
      | refine LeO.ite ?_ ?_
      | refine LeO.bind ?_ (fun _ => ?_)

/-! ### casketref17_Seal: function 35 -/
def casketref17_Seal.f (k : Nat) (l0 : List Int) (l1 : List Int) (l2 : List Int) (l3 : List Int) : Option (List Int × Int) := (casketref15_Stream.f k l0 1 l1 l3).bind fun bt729 => (if bt729.2 = 0 then ((casketref17_Tag.f k l0 l1 l2 bt729.1).bind fun t733 => (if bt729.1.length + t733.length < 140737488355328 then (some ((bt729.1 ++ t733), 0)) else (none))) else (some (([] : List Int), bt729.2)))

theorem casketref17_Seal.mono : ∀ a0 a1 a2 a3 k, LeO (casketref17_Seal.f k a0 a1 a2 a3) (casketref17_Seal.f (k + 1) a0 a1 a2 a3) := by
  intro a0 a1 a2 a3 k
  unfold casketref17_Seal.f
  repeat' first
      | (with_reducible exact casketref15_Stream.mono _ _ _ _ _)
      | (with_reducible exact casketref17_Tag.mono _ _ _ _ _)
      | (with_reducible exact LeO.refl _)
      | (with_reducible exact LeO.none _)
      | (with_reducible refine LeO.ite ?_ ?_)
      | (with_reducible refine LeO.bind ?_ (fun _ => ?_))
      | exact casketref15_Stream.mono _ _ _ _ _
      | exact casketref17_Tag.mono _ _ _ _ _
      | exact LeO.none _
      | refine LeO.ite ?_ ?_
      | refine LeO.bind ?_ (fun _ => ?_)

/-! ### casketref17_Open: function 38 -/
def casketref17_Open.j0 : Nat → List Int → List Int → List Int → List Int → Bool → Option (List Int × Int)
  | 0, _, _, _, _, _ => none
  | k + 1, x0, x1, x2, x3, x18 => if x18 = true then (some (([] : List Int), 1)) else (if (wrap64 ((x3.length : Int) - 16)) < 0 then (some (([] : List Int), 2)) else (if 0 ≤ (wrap64 ((x3.length : Int) - 16)) then (if (wrap64 ((x3.length : Int) - 16)) ≤ (x3.length : Int) then ((casketref17_Tag.f k x0 x1 x2 (x3.take ((wrap64 ((x3.length : Int) - 16)) : Int).toNat)).bind fun t750 => ((casketref01_Same.f k t750 (x3.drop ((wrap64 ((x3.length : Int) - 16)) : Int).toNat)).bind fun t754 => (if t754 = true then ((casketref15_Stream.f k x0 1 x1 (x3.take ((wrap64 ((x3.length : Int) - 16)) : Int).toNat)).bind fun bt756 => (some (bt756.1, bt756.2))) else (some (([] : List Int), 5))))) else (none)) else (none)))

def casketref17_Open.f (k : Nat) (l0 : List Int) (l1 : List Int) (l2 : List Int) (l3 : List Int) : Option (List Int × Int) := if (l0.length : Int) = 32 then (casketref17_Open.j0 k l0 l1 l2 l3 ((l1.length : Int) != 12)) else (casketref17_Open.j0 k l0 l1 l2 l3 true)

theorem casketref17_Open.mono_l : ∀ k, (∀ y0 y1 y2 y3 y4, LeO (casketref17_Open.j0 k y0 y1 y2 y3 y4) (casketref17_Open.j0 (k + 1) y0 y1 y2 y3 y4))
  | 0 => fun _ _ _ _ _ r h => by simp [casketref17_Open.j0] at h
  | k + 1 => by
    have ih0 := casketref17_Open.mono_l k
    · intro y0 y1 y2 y3 y4
      unfold casketref17_Open.j0
      repeat' first
      | (with_reducible exact ih0 _ _ _ _ _)
      | (with_reducible exact casketref01_Same.mono _ _ _)
      | (with_reducible exact casketref15_Stream.mono _ _ _ _ _)
      | (with_reducible exact casketref17_Tag.mono _ _ _ _ _)
      | (with_reducible exact LeO.refl _)
      | (with_reducible exact LeO.none _)
      | (with_reducible refine LeO.ite ?_ ?_)
      | (with_reducible refine LeO.bind ?_ (fun _ => ?_))
      | exact ih0 _ _ _ _ _
      | exact casketref01_Same.mono _ _ _
      | exact casketref15_Stream.mono _ _ _ _ _
      | exact casketref17_Tag.mono _ _ _ _ _
      | exact LeO.none _
      | refine LeO.ite ?_ ?_
      | refine LeO.bind ?_ (fun _ => ?_)

theorem casketref17_Open.mono : ∀ a0 a1 a2 a3 k, LeO (casketref17_Open.f k a0 a1 a2 a3) (casketref17_Open.f (k + 1) a0 a1 a2 a3) := by
  intro a0 a1 a2 a3 k
  have ih0 := casketref17_Open.mono_l k
  unfold casketref17_Open.f
  repeat' first
      | (with_reducible exact ih0 _ _ _ _ _)
      | (with_reducible exact casketref01_Same.mono _ _ _)
      | (with_reducible exact casketref15_Stream.mono _ _ _ _ _)
      | (with_reducible exact casketref17_Tag.mono _ _ _ _ _)
      | (with_reducible exact LeO.refl _)
      | (with_reducible exact LeO.none _)
      | (with_reducible refine LeO.ite ?_ ?_)
      | (with_reducible refine LeO.bind ?_ (fun _ => ?_))
      | exact ih0 _ _ _ _ _
      | exact casketref01_Same.mono _ _ _
      | exact casketref15_Stream.mono _ _ _ _ _
      | exact casketref17_Tag.mono _ _ _ _ _
      | exact LeO.none _
      | refine LeO.ite ?_ ?_
      | refine LeO.bind ?_ (fun _ => ?_)

end Go.Proofs.Ytllaobhheokafaa.Q
