/- The pure functions (plain Lean over whole numbers and lists) of: casketref01_Same, casketref20_Same, casketlaw20_same, casketref13_Constants, casketref13_padded, casketref13_rot, casketref13_words, casketref13_through, casketref13_Sum. -/
import Derived.Test.YtgdogjnjbinoiaaDoorWWordsX
import Derived.Test.YtgdogjnjbinoiaaDoorDshaX
namespace Go.Proofs.YtgdogjnjbinoiaaDoor.Q
open Go.RowKit Go.Proofs.YtgdogjnjbinoiaaDoorW.PrintWords Go.Proofs.YtgdogjnjbinoiaaDoorW.PrintLast Go.Proofs.YtgdogjnjbinoiaaDoorW.PrintMore
attribute [local go_sem] max2_int min2_int max_two min_two max_three min_three max_four min_four   -- for this text's walks alone
set_option linter.unusedVariables false
set_option linter.unusedSimpArgs false

/-! ### casketref01_Same: function 36 -/
def casketref01_Same.l0 : Nat → List Int → List Int → Int → Option (Bool)
  | 0, _, _, _ => none
  | k + 1, x0, x1, x5 => if x5 < (x0.length : Int) then (if 0 ≤ x5 then (if x5 < (x1.length : Int) then (if (rd x0 x5) = (rd x1 x5) then (casketref01_Same.l0 k x0 x1 (wrap64 (x5 + 1))) else (some false)) else (none)) else (none)) else (some true)

def casketref01_Same.f (k : Nat) (l0 : List Int) (l1 : List Int) : Option (Bool) := if (l0.length : Int) = (l1.length : Int) then (casketref01_Same.l0 k l0 l1 0) else (some false)

theorem casketref01_Same.mono_l : ∀ k, (∀ y0 y1 y2, LeO (casketref01_Same.l0 k y0 y1 y2) (casketref01_Same.l0 (k + 1) y0 y1 y2))
  | 0 => fun _ _ _ r h => by simp [casketref01_Same.l0] at h
  | k + 1 => by
    have ih0 := casketref01_Same.mono_l k
    · intro y0 y1 y2
      unfold casketref01_Same.l0
      repeat' first
      | (with_reducible exact ih0 _ _ _)
      | (with_reducible exact LeO.refl _)
      | (with_reducible exact LeO.none _)
      | (with_reducible refine LeO.ite ?_ ?_)
      | (with_reducible refine LeO.bind ?_ (fun _ => ?_))
      | exact ih0 _ _ _
      | exact LeO.none _
      | refine LeO.ite ?_ ?_
      | refine LeO.bind ?_ (fun _ => ?_)

theorem casketref01_Same.mono : ∀ a0 a1 k, LeO (casketref01_Same.f k a0 a1) (casketref01_Same.f (k + 1) a0 a1) := by
  intro a0 a1 k
  have ih0 := casketref01_Same.mono_l k
  unfold casketref01_Same.f
  repeat' first
      | (with_reducible exact ih0 _ _ _)
      | (with_reducible exact LeO.refl _)
      | (with_reducible exact LeO.none _)
      | (with_reducible refine LeO.ite ?_ ?_)
      | (with_reducible refine LeO.bind ?_ (fun _ => ?_))
      | exact ih0 _ _ _
      | exact LeO.none _
      | refine LeO.ite ?_ ?_
      | refine LeO.bind ?_ (fun _ => ?_)

/-! ### casketref20_Same: function 14 -/
def casketref20_Same.l0 : Nat → List (List Int) → List (List Int) → Int → Option (Bool)
  | 0, _, _, _ => none
  | k + 1, x0, x1, x5 => if x5 < (x0.length : Int) then (if 0 ≤ x5 then (if x5 < (x1.length : Int) then ((casketref01_Same.f k (rd_L1 x0 x5) (rd_L1 x1 x5)).bind fun t108 => (if t108 = true then (casketref20_Same.l0 k x0 x1 (wrap64 (x5 + 1))) else (some false))) else (none)) else (none)) else (some true)

def casketref20_Same.f (k : Nat) (l0 : List (List Int)) (l1 : List (List Int)) : Option (Bool) := if (l0.length : Int) = (l1.length : Int) then (casketref20_Same.l0 k l0 l1 0) else (some false)

theorem casketref20_Same.mono_l : ∀ k, (∀ y0 y1 y2, LeO (casketref20_Same.l0 k y0 y1 y2) (casketref20_Same.l0 (k + 1) y0 y1 y2))
  | 0 => fun _ _ _ r h => by simp [casketref20_Same.l0] at h
  | k + 1 => by
    have ih0 := casketref20_Same.mono_l k
    · intro y0 y1 y2
      unfold casketref20_Same.l0
      repeat' first
      | (with_reducible exact ih0 _ _ _)
      | (with_reducible exact casketref01_Same.mono _ _ _)
      | (with_reducible exact LeO.refl _)
      | (with_reducible exact LeO.none _)
      | (with_reducible refine LeO.ite ?_ ?_)
      | (with_reducible refine LeO.bind ?_ (fun _ => ?_))
      | exact ih0 _ _ _
      | exact casketref01_Same.mono _ _ _
      | exact LeO.none _
      | refine LeO.ite ?_ ?_
      | refine LeO.bind ?_ (fun _ => ?_)

theorem casketref20_Same.mono : ∀ a0 a1 k, LeO (casketref20_Same.f k a0 a1) (casketref20_Same.f (k + 1) a0 a1) := by
  intro a0 a1 k
  have ih0 := casketref20_Same.mono_l k
  unfold casketref20_Same.f
  repeat' first
      | (with_reducible exact ih0 _ _ _)
      | (with_reducible exact casketref01_Same.mono _ _ _)
      | (with_reducible exact LeO.refl _)
      | (with_reducible exact LeO.none _)
      | (with_reducible refine LeO.ite ?_ ?_)
      | (with_reducible refine LeO.bind ?_ (fun _ => ?_))
      | exact ih0 _ _ _
      | exact casketref01_Same.mono _ _ _
      | exact LeO.none _
      | refine LeO.ite ?_ ?_
      | refine LeO.bind ?_ (fun _ => ?_)

/-! ### casketlaw20_same: function 15 -/
def casketlaw20_same.f (k : Nat) (l0 : List Int) (l1 : List Int) : Option (Bool) := (casketref01_Same.f k l0 l1).bind fun t109 => (some t109)

theorem casketlaw20_same.mono : ∀ a0 a1 k, LeO (casketlaw20_same.f k a0 a1) (casketlaw20_same.f (k + 1) a0 a1) := by
  intro a0 a1 k
  unfold casketlaw20_same.f
  repeat' first
      | (with_reducible exact casketref01_Same.mono _ _ _)
      | (with_reducible exact LeO.refl _)
      | (with_reducible exact LeO.none _)
      | (with_reducible refine LeO.ite ?_ ?_)
      | (with_reducible refine LeO.bind ?_ (fun _ => ?_))
      | exact casketref01_Same.mono _ _ _
      | exact LeO.none _
      | refine LeO.ite ?_ ?_
      | refine LeO.bind ?_ (fun _ => ?_)

/-! ### casketref13_Constants: function 51 -/
def casketref13_Constants.f  : Option (List Int × List Int) := some ((([1116352408, 1899447441, 3049323471, 3921009573, 961987163, 1508970993, 2453635748, 2870763221, 3624381080, 310598401, 607225278, 1426881987, 1925078388, 2162078206, 2614888103, 3248222580, 3835390401, 4022224774, 264347078, 604807628, 770255983, 1249150122, 1555081692, 1996064986, 2554220882, 2821834349, 2952996808, 3210313671, 3336571891, 3584528711, 113926993, 338241895, 666307205, 773529912, 1294757372, 1396182291, 1695183700, 1986661051, 2177026350, 2456956037, 2730485921, 2820302411, 3259730800, 3345764771, 3516065817, 3600352804, 4094571909, 275423344, 430227734, 506948616, 659060556, 883997877, 958139571, 1322822218, 1537002063, 1747873779, 1955562222, 2024104815, 2227730452, 2361852424, 2428436474, 2756734187, 3204031479, 3329325298] : List Int)), (([1779033703, 3144134277, 1013904242, 2773480762, 1359893119, 2600822924, 528734635, 1541459225] : List Int)))

/-! ### casketref13_padded: function 52 -/
mutual

def casketref13_padded.l0 : Nat → List Int → List Int → Option (List Int)
  | 0, _, _ => none
  | k + 1, x0, x3 => if ((x3.length : Int) % 64) = 56 then (casketref13_padded.l1 k x3 (IntKind.u64.wrap ((IntKind.u64.wrap ((x0.length : Int))) * 8)) 7) else (if x3.length < 140737488355328 then (casketref13_padded.l0 k x0 (x3 ++ [0])) else (none))

def casketref13_padded.l1 : Nat → List Int → Int → Int → Option (List Int)
  | 0, _, _, _ => none
  | k + 1, x3, x4, x5 => if x5 ≥ 0 then (if 0 ≤ (IntKind.u64.wrap (wrap64 (8 * x5))) then (if x3.length < 140737488355328 then (casketref13_padded.l1 k (x3 ++ [(shr .u64 x4 (IntKind.u64.wrap (wrap64 (8 * x5)))) % 256]) x4 (wrap64 (x5 - 1))) else (none)) else (none)) else (some x3)
end

def casketref13_padded.f (k : Nat) (l0 : List Int) : Option (List Int) := (some (([] : List Int) : List Int)).bind fun y176 => (if y176.length + l0.length < 140737488355328 then ((some (y176 ++ l0 : List Int)).bind fun y179 => (if y179.length < 140737488355328 then (casketref13_padded.l0 k l0 (y179 ++ [128])) else (none))) else (none))

theorem casketref13_padded.mono_l : ∀ k, (∀ y0 y1, LeO (casketref13_padded.l0 k y0 y1) (casketref13_padded.l0 (k + 1) y0 y1)) ∧ (∀ y0 y1 y2, LeO (casketref13_padded.l1 k y0 y1 y2) (casketref13_padded.l1 (k + 1) y0 y1 y2))
  | 0 => ⟨fun _ _ r h => by simp [casketref13_padded.l0] at h, fun _ _ _ r h => by simp [casketref13_padded.l1] at h⟩
  | k + 1 => by
    obtain ⟨ih0, ih1⟩ := casketref13_padded.mono_l k
    refine ⟨?_, ?_⟩
    · intro y0 y1
      unfold casketref13_padded.l0
      repeat' first
      | (with_reducible exact ih0 _ _)
      | (with_reducible exact ih1 _ _ _)
      | (with_reducible exact LeO.refl _)
      | (with_reducible exact LeO.none _)
      | (with_reducible refine LeO.ite ?_ ?_)
      | (with_reducible refine LeO.bind ?_ (fun _ => ?_))
      | exact ih0 _ _
      | exact ih1 _ _ _
      | exact LeO.none _
      | refine LeO.ite ?_ ?_
      | refine LeO.bind ?_ (fun _ => ?_)
    · intro y0 y1 y2
      unfold casketref13_padded.l1
      repeat' first
      | (with_reducible exact ih0 _ _)
      | (with_reducible exact ih1 _ _ _)
      | (with_reducible exact LeO.refl _)
      | (with_reducible exact LeO.none _)
      | (with_reducible refine LeO.ite ?_ ?_)
      | (with_reducible refine LeO.bind ?_ (fun _ => ?_))
      | exact ih0 _ _
      | exact ih1 _ _ _
      | exact LeO.none _
      | refine LeO.ite ?_ ?_
      | refine LeO.bind ?_ (fun _ => ?_)

theorem casketref13_padded.mono : ∀ a0 k, LeO (casketref13_padded.f k a0) (casketref13_padded.f (k + 1) a0) := by
  intro a0 k
  obtain ⟨ih0, ih1⟩ := casketref13_padded.mono_l k
  unfold casketref13_padded.f
  repeat' first
      | (with_reducible exact ih0 _ _)
      | (with_reducible exact ih1 _ _ _)
      | (with_reducible exact LeO.refl _)
      | (with_reducible exact LeO.none _)
      | (with_reducible refine LeO.ite ?_ ?_)
      | (with_reducible refine LeO.bind ?_ (fun _ => ?_))
      | exact ih0 _ _
      | exact ih1 _ _ _
      | exact LeO.none _
      | refine LeO.ite ?_ ?_
      | refine LeO.bind ?_ (fun _ => ?_)

/-! ### casketref13_rot: function 59 -/
def casketref13_rot.f (a0 : Int) (a1 : Int) : Option (Int) := if 0 ≤ a1 then (if 0 ≤ (IntKind.u64.wrap (32 - a1)) then (some (Go.bits .or .u32 (shr .u32 a0 a1) (shl .u32 a0 (IntKind.u64.wrap (32 - a1))))) else (none)) else (none)

/-! ### casketref13_words: function 58 -/
mutual

def casketref13_words.l0 : Nat → List Int → List Int → Int → Option (List Int)
  | 0, _, _, _ => none
  | k + 1, x0, x3, x4 => if x4 < 16 then (if 0 ≤ (wrap64 (4 * x4)) then (if (wrap64 (4 * x4)) < (x0.length : Int) then (if 0 ≤ (wrap64 ((wrap64 (4 * x4)) + 1)) then (if (wrap64 ((wrap64 (4 * x4)) + 1)) < (x0.length : Int) then (if 0 ≤ (wrap64 ((wrap64 (4 * x4)) + 2)) then (if (wrap64 ((wrap64 (4 * x4)) + 2)) < (x0.length : Int) then (if 0 ≤ (wrap64 ((wrap64 (4 * x4)) + 3)) then (if (wrap64 ((wrap64 (4 * x4)) + 3)) < (x0.length : Int) then (if x3.length < 35184372088832 then (casketref13_words.l0 k x0 (x3 ++ [Go.bits .or .u32 (Go.bits .or .u32 (Go.bits .or .u32 ((((rd x0 (wrap64 (4 * x4))) % 4294967296) * 16777216) % 4294967296) ((((rd x0 (wrap64 ((wrap64 (4 * x4)) + 1))) % 4294967296) * 65536) % 4294967296)) ((((rd x0 (wrap64 ((wrap64 (4 * x4)) + 2))) % 4294967296) * 256) % 4294967296)) ((rd x0 (wrap64 ((wrap64 (4 * x4)) + 3))) % 4294967296)]) (wrap64 (x4 + 1))) else (none)) else (none)) else (none)) else (none)) else (none)) else (none)) else (none)) else (none)) else (none)) else (casketref13_words.l1 k x3 16)

def casketref13_words.l1 : Nat → List Int → Int → Option (List Int)
  | 0, _, _ => none
  | k + 1, x3, x5 => if x5 < 64 then (if 0 ≤ (wrap64 (x5 - 2)) then (if (wrap64 (x5 - 2)) < (x3.length : Int) then (if 0 ≤ (wrap64 (x5 - 15)) then (if (wrap64 (x5 - 15)) < (x3.length : Int) then ((casketref13_rot.f (rd x3 (wrap64 (x5 - 2))) 17).bind fun t200 => ((casketref13_rot.f (rd x3 (wrap64 (x5 - 2))) 19).bind fun t201 => ((casketref13_rot.f (rd x3 (wrap64 (x5 - 15))) 7).bind fun t202 => ((casketref13_rot.f (rd x3 (wrap64 (x5 - 15))) 18).bind fun t203 => (if 0 ≤ (wrap64 (x5 - 7)) then (if (wrap64 (x5 - 7)) < (x3.length : Int) then (if 0 ≤ (wrap64 (x5 - 16)) then (if (wrap64 (x5 - 16)) < (x3.length : Int) then (if x3.length < 35184372088832 then (casketref13_words.l1 k (x3 ++ [((((((Go.bits .xor .u32 (Go.bits .xor .u32 t200 t201) ((rd x3 (wrap64 (x5 - 2))) / 1024)) + (rd x3 (wrap64 (x5 - 7)))) % 4294967296) + (Go.bits .xor .u32 (Go.bits .xor .u32 t202 t203) ((rd x3 (wrap64 (x5 - 15))) / 8))) % 4294967296) + (rd x3 (wrap64 (x5 - 16)))) % 4294967296]) (wrap64 (x5 + 1))) else (none)) else (none)) else (none)) else (none)) else (none)))))) else (none)) else (none)) else (none)) else (none)) else (some x3)
end

def casketref13_words.f (k : Nat) (l0 : List Int) : Option (List Int) := casketref13_words.l0 k l0 ([] : List Int) 0

theorem casketref13_words.mono_l : ∀ k, (∀ y0 y1 y2, LeO (casketref13_words.l0 k y0 y1 y2) (casketref13_words.l0 (k + 1) y0 y1 y2)) ∧ (∀ y0 y1, LeO (casketref13_words.l1 k y0 y1) (casketref13_words.l1 (k + 1) y0 y1))
  | 0 => ⟨fun _ _ _ r h => by simp [casketref13_words.l0] at h, fun _ _ r h => by simp [casketref13_words.l1] at h⟩
  | k + 1 => by
    obtain ⟨ih0, ih1⟩ := casketref13_words.mono_l k
    refine ⟨?_, ?_⟩
    · intro y0 y1 y2
      unfold casketref13_words.l0
      repeat' first
      | (with_reducible exact ih0 _ _ _)
      | (with_reducible exact ih1 _ _)
      | (with_reducible exact LeO.refl _)
      | (with_reducible exact LeO.none _)
      | (with_reducible refine LeO.ite ?_ ?_)
      | (with_reducible refine LeO.bind ?_ (fun _ => ?_))
      | exact ih0 _ _ _
      | exact ih1 _ _
      | exact LeO.none _
      | refine LeO.ite ?_ ?_
      | refine LeO.bind ?_ (fun _ => ?_)
    · intro y0 y1
      unfold casketref13_words.l1
      repeat' first
      | (with_reducible exact ih0 _ _ _)
      | (with_reducible exact ih1 _ _)
      | (with_reducible exact LeO.refl _)
      | (with_reducible exact LeO.none _)
      | (with_reducible refine LeO.ite ?_ ?_)
      | (with_reducible refine LeO.bind ?_ (fun _ => ?_))
      | exact ih0 _ _ _
      | exact ih1 _ _
      | exact LeO.none _
      | refine LeO.ite ?_ ?_
      | refine LeO.bind ?_ (fun _ => ?_)

theorem casketref13_words.mono : ∀ a0 k, LeO (casketref13_words.f k a0) (casketref13_words.f (k + 1) a0) := by
  intro a0 k
  obtain ⟨ih0, ih1⟩ := casketref13_words.mono_l k
  unfold casketref13_words.f
  repeat' first
      | (with_reducible exact ih0 _ _ _)
      | (with_reducible exact ih1 _ _)
      | (with_reducible exact LeO.refl _)
      | (with_reducible exact LeO.none _)
      | (with_reducible refine LeO.ite ?_ ?_)
      | (with_reducible refine LeO.bind ?_ (fun _ => ?_))
      | exact ih0 _ _ _
      | exact ih1 _ _
      | exact LeO.none _
      | refine LeO.ite ?_ ?_
      | refine LeO.bind ?_ (fun _ => ?_)

/-! ### casketref13_through: function 53 -/
mutual

def casketref13_through.l0 : Nat → List Int → List Int → List Int → List Int → Int → Option (List Int)
  | 0, _, _, _, _, _ => none
  | k + 1, x0, x2, x7, x8, x9 => if x9 < 64 then (if 4 < (x8.length : Int) then (if 0 < (x8.length : Int) then (if 7 < (x8.length : Int) then ((casketref13_rot.f (rd x8 4) 6).bind fun t221 => ((casketref13_rot.f (rd x8 4) 11).bind fun t222 => ((casketref13_rot.f (rd x8 4) 25).bind fun t223 => (if 5 < (x8.length : Int) then (if 6 < (x8.length : Int) then (if 0 ≤ x9 then (if x9 < (x2.length : Int) then (if x9 < (x7.length : Int) then ((casketref13_rot.f (rd x8 0) 2).bind fun t228 => ((casketref13_rot.f (rd x8 0) 13).bind fun t229 => ((casketref13_rot.f (rd x8 0) 22).bind fun t230 => (if 1 < (x8.length : Int) then (if 2 < (x8.length : Int) then (if 3 < (x8.length : Int) then (casketref13_through.l0 k x0 x2 x7 (([((((((((((rd x8 7) + (Go.bits .xor .u32 (Go.bits .xor .u32 t221 t222) t223)) % 4294967296) + (Go.bits .xor .u32 (Go.bits .and .u32 (rd x8 4) (rd x8 5)) (Go.bits .and .u32 (Go.bits .xor .u32 4294967295 (rd x8 4)) (rd x8 6)))) % 4294967296) + (rd x2 x9)) % 4294967296) + (rd x7 x9)) % 4294967296) + (((Go.bits .xor .u32 (Go.bits .xor .u32 t228 t229) t230) + (Go.bits .xor .u32 (Go.bits .xor .u32 (Go.bits .and .u32 (rd x8 0) (rd x8 1)) (Go.bits .and .u32 (rd x8 0) (rd x8 2))) (Go.bits .and .u32 (rd x8 1) (rd x8 2)))) % 4294967296)) % 4294967296, rd x8 0, rd x8 1, rd x8 2, ((rd x8 3) + (((((((((rd x8 7) + (Go.bits .xor .u32 (Go.bits .xor .u32 t221 t222) t223)) % 4294967296) + (Go.bits .xor .u32 (Go.bits .and .u32 (rd x8 4) (rd x8 5)) (Go.bits .and .u32 (Go.bits .xor .u32 4294967295 (rd x8 4)) (rd x8 6)))) % 4294967296) + (rd x2 x9)) % 4294967296) + (rd x7 x9)) % 4294967296)) % 4294967296, rd x8 4, rd x8 5, rd x8 6] : List Int)) (wrap64 (x9 + 1))) else (none)) else (none)) else (none))))) else (none)) else (none)) else (none)) else (none)) else (none))))) else (none)) else (none)) else (none)) else (casketref13_through.l1 k x0 x8 ([] : List Int) 0)

def casketref13_through.l1 : Nat → List Int → List Int → List Int → Int → Option (List Int)
  | 0, _, _, _, _ => none
  | k + 1, x0, x8, x14, x15 => if x15 < 8 then (if 0 ≤ x15 then (if x15 < (x0.length : Int) then (if x15 < (x8.length : Int) then (if x14.length < 35184372088832 then (casketref13_through.l1 k x0 x8 (x14 ++ [((rd x0 x15) + (rd x8 x15)) % 4294967296]) (wrap64 (x15 + 1))) else (none)) else (none)) else (none)) else (none)) else (some x14)
end

def casketref13_through.f (k : Nat) (l0 : List Int) (l1 : List Int) (l2 : List Int) : Option (List Int) := (casketref13_words.f k l1).bind fun t209 => ((some (([] : List Int) : List Int)).bind fun y212 => (if y212.length + l0.length < 35184372088832 then (casketref13_through.l0 k l0 l2 t209 (y212 ++ l0) 0) else (none)))

theorem casketref13_through.mono_l : ∀ k, (∀ y0 y1 y2 y3 y4, LeO (casketref13_through.l0 k y0 y1 y2 y3 y4) (casketref13_through.l0 (k + 1) y0 y1 y2 y3 y4)) ∧ (∀ y0 y1 y2 y3, LeO (casketref13_through.l1 k y0 y1 y2 y3) (casketref13_through.l1 (k + 1) y0 y1 y2 y3))
  | 0 => ⟨fun _ _ _ _ _ r h => by simp [casketref13_through.l0] at h, fun _ _ _ _ r h => by simp [casketref13_through.l1] at h⟩
  | k + 1 => by
    obtain ⟨ih0, ih1⟩ := casketref13_through.mono_l k
    refine ⟨?_, ?_⟩
    · intro y0 y1 y2 y3 y4
      unfold casketref13_through.l0
      repeat' first
      | (with_reducible exact ih0 _ _ _ _ _)
      | (with_reducible exact ih1 _ _ _ _)
      | (with_reducible exact casketref13_words.mono _ _)
      | (with_reducible exact LeO.refl _)
      | (with_reducible exact LeO.none _)
      | (with_reducible refine LeO.ite ?_ ?_)
      | (with_reducible refine LeO.bind ?_ (fun _ => ?_))
      | exact ih0 _ _ _ _ _
      | exact ih1 _ _ _ _
      | exact casketref13_words.mono _ _
      | exact LeO.none _
      | refine LeO.ite ?_ ?_
      | refine LeO.bind ?_ (fun _ => ?_)
    · intro y0 y1 y2 y3
      unfold casketref13_through.l1
      repeat' first
      | (with_reducible exact ih0 _ _ _ _ _)
      | (with_reducible exact ih1 _ _ _ _)
      | (with_reducible exact casketref13_words.mono _ _)
      | (with_reducible exact LeO.refl _)
      | (with_reducible exact LeO.none _)
      | (with_reducible refine LeO.ite ?_ ?_)
      | (with_reducible refine LeO.bind ?_ (fun _ => ?_))
      | exact ih0 _ _ _ _ _
      | exact ih1 _ _ _ _
      | exact casketref13_words.mono _ _
      | exact LeO.none _
      | refine LeO.ite ?_ ?_
      | refine LeO.bind ?_ (fun _ => ?_)

theorem casketref13_through.mono : ∀ a0 a1 a2 k, LeO (casketref13_through.f k a0 a1 a2) (casketref13_through.f (k + 1) a0 a1 a2) := by
  intro a0 a1 a2 k
  obtain ⟨ih0, ih1⟩ := casketref13_through.mono_l k
  unfold casketref13_through.f
  repeat' first
      | (with_reducible exact ih0 _ _ _ _ _)
      | (with_reducible exact ih1 _ _ _ _)
      | (with_reducible exact casketref13_words.mono _ _)
      | (with_reducible exact LeO.refl _)
      | (with_reducible exact LeO.none _)
      | (with_reducible refine LeO.ite ?_ ?_)
      | (with_reducible refine LeO.bind ?_ (fun _ => ?_))
      | exact ih0 _ _ _ _ _
      | exact ih1 _ _ _ _
      | exact casketref13_words.mono _ _
      | exact LeO.none _
      | refine LeO.ite ?_ ?_
      | refine LeO.bind ?_ (fun _ => ?_)

/-! ### casketref13_Sum: function 42 -/
mutual

def casketref13_Sum.l0 : Nat → List Int → List Int → List Int → Int → Option (List Int)
  | 0, _, _, _, _ => none
  | k + 1, x3, x4, x5, x6 => if x6 < (x5.length : Int) then (if 0 ≤ x6 then (if x6 ≤ (wrap64 (x6 + 64)) then (if (wrap64 (x6 + 64)) ≤ (x5.length : Int) then ((casketref13_through.f k x4 ((x5.take ((wrap64 (x6 + 64)) : Int).toNat).drop (x6 : Int).toNat) x3).bind fun t263 => (casketref13_Sum.l0 k x3 t263 x5 (wrap64 (x6 + 64)))) else (none)) else (none)) else (none)) else (casketref13_Sum.l1 k x4 ([] : List Int) 0)

def casketref13_Sum.l1 : Nat → List Int → List Int → Int → Option (List Int)
  | 0, _, _, _ => none
  | k + 1, x4, x7, x8 => if x8 < 8 then (if 0 ≤ x8 then (if x8 < (x4.length : Int) then ((some (([((rd x4 x8) / 16777216) % 256, ((rd x4 x8) / 65536) % 256, ((rd x4 x8) / 256) % 256, (rd x4 x8) % 256] : List Int) : List Int)).bind fun y270 => (if x7.length + y270.length < 140737488355328 then (casketref13_Sum.l1 k x4 (x7 ++ y270) (wrap64 (x8 + 1))) else (none))) else (none)) else (none)) else (some x7)
end

def casketref13_Sum.f (k : Nat) (l0 : List Int) : Option (List Int) := (casketref13_Constants.f).bind fun bt250 => ((casketref13_padded.f k l0).bind fun t256 => (casketref13_Sum.l0 k bt250.1 bt250.2 t256 0))

theorem casketref13_Sum.mono_l : ∀ k, (∀ y0 y1 y2 y3, LeO (casketref13_Sum.l0 k y0 y1 y2 y3) (casketref13_Sum.l0 (k + 1) y0 y1 y2 y3)) ∧ (∀ y0 y1 y2, LeO (casketref13_Sum.l1 k y0 y1 y2) (casketref13_Sum.l1 (k + 1) y0 y1 y2))
  | 0 => ⟨fun _ _ _ _ r h => by simp [casketref13_Sum.l0] at h, fun _ _ _ r h => by simp [casketref13_Sum.l1] at h⟩
  | k + 1 => by
    obtain ⟨ih0, ih1⟩ := casketref13_Sum.mono_l k
    refine ⟨?_, ?_⟩
    · intro y0 y1 y2 y3
      unfold casketref13_Sum.l0
      repeat' first
      | (with_reducible exact ih0 _ _ _ _)
      | (with_reducible exact ih1 _ _ _)
      | (with_reducible exact casketref13_padded.mono _ _)
      | (with_reducible exact casketref13_through.mono _ _ _ _)
      | (with_reducible exact LeO.refl _)
      | (with_reducible exact LeO.none _)
      | (with_reducible refine LeO.ite ?_ ?_)
      | (with_reducible refine LeO.bind ?_ (fun _ => ?_))
      | exact ih0 _ _ _ _
      | exact ih1 _ _ _
      | exact casketref13_padded.mono _ _
      | exact casketref13_through.mono _ _ _ _
      | exact LeO.none _
      | refine LeO.ite ?_ ?_
      | refine LeO.bind ?_ (fun _ => ?_)
    · intro y0 y1 y2
      unfold casketref13_Sum.l1
      repeat' first
      | (with_reducible exact ih0 _ _ _ _)
      | (with_reducible exact ih1 _ _ _)
      | (with_reducible exact casketref13_padded.mono _ _)
      | (with_reducible exact casketref13_through.mono _ _ _ _)
      | (with_reducible exact LeO.refl _)
      | (with_reducible exact LeO.none _)
      | (with_reducible refine LeO.ite ?_ ?_)
      | (with_reducible refine LeO.bind ?_ (fun _ => ?_))
      | exact ih0 _ _ _ _
      | exact ih1 _ _ _
      | exact casketref13_padded.mono _ _
      | exact casketref13_through.mono _ _ _ _
      | exact LeO.none _
      | refine LeO.ite ?_ ?_
      | refine LeO.bind ?_ (fun _ => ?_)

theorem casketref13_Sum.mono : ∀ a0 k, LeO (casketref13_Sum.f k a0) (casketref13_Sum.f (k + 1) a0) := by
  intro a0 k
  obtain ⟨ih0, ih1⟩ := casketref13_Sum.mono_l k
  unfold casketref13_Sum.f
  repeat' first
      | (with_reducible exact ih0 _ _ _ _)
      | (with_reducible exact ih1 _ _ _)
      | (with_reducible exact casketref13_padded.mono _ _)
      | (with_reducible exact casketref13_through.mono _ _ _ _)
      | (with_reducible exact LeO.refl _)
      | (with_reducible exact LeO.none _)
      | (with_reducible refine LeO.ite ?_ ?_)
      | (with_reducible refine LeO.bind ?_ (fun _ => ?_))
      | exact ih0 _ _ _ _
      | exact ih1 _ _ _
      | exact casketref13_padded.mono _ _
      | exact casketref13_through.mono _ _ _ _
      | exact LeO.none _
      | refine LeO.ite ?_ ?_
      | refine LeO.bind ?_ (fun _ => ?_)

end Go.Proofs.YtgdogjnjbinoiaaDoor.Q
