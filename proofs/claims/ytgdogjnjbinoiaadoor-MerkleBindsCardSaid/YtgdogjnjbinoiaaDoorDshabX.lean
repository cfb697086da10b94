/- The pure functions (plain Lean over whole numbers and lists) of: bits_RotateLeft32, sha_rot.
   What SHA-256 comes to, as the code makes it: plain Lean over whole numbers and lists. -/
import Derived.Test.YtgdogjnjbinoiaaDoorWWordsX
/-! ### Dshab -/
section
namespace Go.Proofs.YtgdogjnjbinoiaaDoor.Q
open Go.RowKit Go.Proofs.YtgdogjnjbinoiaaDoorW.PrintWords Go.Proofs.YtgdogjnjbinoiaaDoorW.PrintLast Go.Proofs.YtgdogjnjbinoiaaDoorW.PrintMore
attribute [local go_sem] max2_int min2_int max_two min_two max_three min_three max_four min_four   -- for this text's walks alone
set_option linter.unusedVariables false
set_option linter.unusedSimpArgs false

/-! ### bits_RotateLeft32: function 65 -/
def bits_RotateLeft32.f (a0 : Int) (a1 : Int) : Option (Int) := if 0 ≤ (Go.bits .and .u64 (IntKind.u64.wrap (a1)) 31) then (if 0 ≤ (IntKind.u64.wrap (32 - (Go.bits .and .u64 (IntKind.u64.wrap (a1)) 31))) then (some (Go.bits .or .u32 (shl .u32 a0 (Go.bits .and .u64 (IntKind.u64.wrap (a1)) 31)) (shr .u32 a0 (IntKind.u64.wrap (32 - (Go.bits .and .u64 (IntKind.u64.wrap (a1)) 31)))))) else (none)) else (none)

/-! ### sha_rot: function 64 -/
def sha_rot.f (a0 : Int) (a1 : Int) : Option (Int) := (bits_RotateLeft32.f a0 (wrap64 (-a1))).bind fun t110 => (some t110)

end Go.Proofs.YtgdogjnjbinoiaaDoor.Q
end
/-! ### Psha -/
section
namespace Go.Proofs.YtgdogjnjbinoiaaDoor.Q
open Go.RowKit Go.Proofs.YtgdogjnjbinoiaaDoorW.PrintWords
set_option linter.unusedVariables false
/-- A word turned to the right. -/
def rr (x n : Int) : Int := Go.bits .or .u32 (shl .u32 x (32 - n)) (shr .u32 x n)
theorem rl_f (x m n : Int) (h1 : Go.bits .and .u64 (IntKind.u64.wrap (wrap64 (-n))) 31 = m) (h2 : IntKind.u64.wrap (32 - m) = n) (h3 : 0 ≤ m) (h4 : 0 ≤ n) (h5 : m = 32 - n) : sha_rot.f x n = some (rr x n) := by
  unfold sha_rot.f bits_RotateLeft32.f
  rw [h1, h2, if_pos h3, if_pos h4, h5]
  rfl
theorem rr_f (x n : Int) (h : n = 2 ∨ n = 6 ∨ n = 7 ∨ n = 11 ∨ n = 13 ∨ n = 17 ∨ n = 18 ∨ n = 19 ∨ n = 22 ∨ n = 25) : sha_rot.f x n = some (rr x n) := by
  rcases h with rfl | rfl | rfl | rfl | rfl | rfl | rfl | rfl | rfl | rfl
  · exact rl_f x 30 2 (by kernel_rfl) (by kernel_rfl) (by decide) (by decide) (by decide)
  · exact rl_f x 26 6 (by kernel_rfl) (by kernel_rfl) (by decide) (by decide) (by decide)
  · exact rl_f x 25 7 (by kernel_rfl) (by kernel_rfl) (by decide) (by decide) (by decide)
  · exact rl_f x 21 11 (by kernel_rfl) (by kernel_rfl) (by decide) (by decide) (by decide)
  · exact rl_f x 19 13 (by kernel_rfl) (by kernel_rfl) (by decide) (by decide) (by decide)
  · exact rl_f x 15 17 (by kernel_rfl) (by kernel_rfl) (by decide) (by decide) (by decide)
  · exact rl_f x 14 18 (by kernel_rfl) (by kernel_rfl) (by decide) (by decide) (by decide)
  · exact rl_f x 13 19 (by kernel_rfl) (by kernel_rfl) (by decide) (by decide) (by decide)
  · exact rl_f x 10 22 (by kernel_rfl) (by kernel_rfl) (by decide) (by decide) (by decide)
  · exact rl_f x 7 25 (by kernel_rfl) (by kernel_rfl) (by decide) (by decide) (by decide)
/-- The first j of four bytes, the highest first. -/
def beN (p : List Int) (t : Nat) : Nat → Int
  | 0 => 0
  | j + 1 => Go.bits .or .u32 (beN p t j * 256 % 4294967296) (rd p (4 * t + j : Nat) % 4294967296)
theorem add3 (a b c d : Int) : IntKind.u32.wrap (IntKind.u32.wrap (IntKind.u32.wrap (a + b) + c) + d) = (a + b + c + d) % 4294967296 := by
  have h : ∀ n : Int, IntKind.u32.wrap n = n % 4294967296 := fun n => by simp [IntKind.wrap, IntKind.bits, IntKind.signed]
  rw [h, h, h]
  omega
/-- Word t of the schedule, out of those ahead of it. -/
def schedV (l : List Int) (t : Int) : Int :=
  (rd l (t - 16) + Go.bits .xor .u32 (Go.bits .xor .u32 (rr (rd l (t - 15)) 7) (rr (rd l (t - 15)) 18)) (rd l (t - 15) / 8) + rd l (t - 7) + Go.bits .xor .u32 (Go.bits .xor .u32 (rr (rd l (t - 2)) 17) (rr (rd l (t - 2)) 19)) (rd l (t - 2) / 1024)) % 4294967296
/-- The schedule's first t words, and noughts. -/
def schedN (p : List Int) : Nat → List Int
  | 0 => List.replicate 64 0
  | t + 1 => if t < 16 then (schedN p t).set t (beN p t 4) else (schedN p t).set t (schedV (schedN p t) t)
theorem schedN_length (p : List Int) : ∀ t, (schedN p t).length = 64
  | 0 => by simp [schedN]
  | t + 1 => by
    unfold schedN
    split <;> simp [schedN_length p t]
/-- Behind word t stand noughts. -/
theorem schedN_zero (p : List Int) : ∀ t i : Nat, t ≤ i → i < 64 → rd (schedN p t) i = 0
  | 0, i, _, h => by
    unfold schedN rd
    rw [List.getD_eq_getElem?_getD, List.getElem?_replicate]
    split <;> rfl
  | t + 1, i, ht, h => by
    have ih := schedN_zero p t i (by omega) h
    have e : ∀ (l : List Int) (v : Int), rd (l.set t v) (i : Int) = rd l i := fun l v => by
      unfold rd
      rw [List.getD_eq_getElem?_getD, List.getD_eq_getElem?_getD, Int.toNat_natCast, List.getElem?_set_ne (by omega)]
    unfold schedN
    split <;> rw [e] <;> exact ih
def kTable : List Int := [1116352408, 1899447441, 3049323471, 3921009573, 961987163, 1508970993, 2453635748, 2870763221, 3624381080, 310598401, 607225278, 1426881987, 1925078388, 2162078206, 2614888103, 3248222580, 3835390401, 4022224774, 264347078, 604807628, 770255983, 1249150122, 1555081692, 1996064986, 2554220882, 2821834349, 2952996808, 3210313671, 3336571891, 3584528711, 113926993, 338241895, 666307205, 773529912, 1294757372, 1396182291, 1695183700, 1986661051, 2177026350, 2456956037, 2730485921, 2820302411, 3259730800, 3345764771, 3516065817, 3600352804, 4094571909, 275423344, 430227734, 506948616, 659060556, 883997877, 958139571, 1322822218, 1537002063, 1747873779, 1955562222, 2024104815, 2227730452, 2361852424, 2428436474, 2756734187, 3204031479, 3329325298]
def hFirst : List Int := [1779033703, 3144134277, 1013904242, 2773480762, 1359893119, 2600822924, 528734635, 1541459225]
/-- The two sums of a round. -/
def rT1 (e f g h k w : Int) : Int :=
  (h + Go.bits .xor .u32 (Go.bits .xor .u32 (rr e 6) (rr e 11)) (rr e 25) + Go.bits .xor .u32 (Go.bits .and .u32 e f) (Go.bits .and .u32 (Go.bits .xor .u32 4294967295 e) g) + k + w) % 4294967296
def rT2 (a b c : Int) : Int :=
  (Go.bits .xor .u32 (Go.bits .xor .u32 (rr a 2) (rr a 13)) (rr a 22) + Go.bits .xor .u32 (Go.bits .xor .u32 (Go.bits .and .u32 a b) (Go.bits .and .u32 a c)) (Go.bits .and .u32 b c)) % 4294967296
/-- A round upon eight words. -/
def roundS (s : List Int) (k w : Int) : List Int :=
  match s with
  | [a, b, c, d, e, f, g, h] => [(rT1 e f g h k w + rT2 a b c) % 4294967296, a, b, c, (d + rT1 e f g h k w) % 4294967296, e, f, g]
  | _ => s
/-- The first k words have been added. -/
def addN (s r : List Int) : Nat → List Int
  | 0 => s
  | k + 1 => (addN s r k).set k ((rd (addN s r k) k + rd r k) % 4294967296)
theorem addN_length (s r : List Int) : ∀ k, (addN s r k).length = s.length
  | 0 => rfl
  | k + 1 => by simp [addN, addN_length s r k]
theorem roundS_length (s : List Int) (k w : Int) (h : s.length = 8) : (roundS s k w).length = 8 := by
  match s, h with
  | [a, b, c, d, e, f, g, h], _ => rfl
def roundsN (s K W : List Int) : Nat → List Int
  | 0 => s
  | t + 1 => roundS (roundsN s K W t) (rd K t) (rd W t)
theorem roundsN_length (s K W : List Int) (h : s.length = 8) : ∀ t, (roundsN s K W t).length = 8
  | 0 => h
  | t + 1 => roundS_length _ _ _ (roundsN_length s K W h t)
/-- A state goes through a piece. -/
def throughW (s p : List Int) : List Int := addN s (roundsN s kTable (schedN p 64) 64) 8
theorem throughW_length (s p : List Int) : (throughW s p).length = s.length := addN_length ..
/-- The four bytes of a word, the highest first. -/
def be4 (x : Int) : List Int := [x / 16777216 % 256, x / 65536 % 256, x / 256 % 256, x % 256]
def bytesN (s : List Int) : Nat → List Int
  | 0 => []
  | k + 1 => bytesN s k ++ be4 (rd s k)
theorem bytesN_length (s : List Int) : ∀ k, (bytesN s k).length = 4 * k
  | 0 => rfl
  | k + 1 => by rw [bytesN, List.length_append, bytesN_length s k]; simp [be4]; omega
/-- A message's state behind its first k pieces. -/
def foldB (m : List Int) : Nat → List Int
  | 0 => hFirst
  | k + 1 => throughW (foldB m k) ((m.drop (64 * k)).take 64)
theorem foldB_length (m : List Int) : ∀ k, (foldB m k).length = 8
  | 0 => rfl
  | k + 1 => (throughW_length _ _).trans (foldB_length m k)
theorem foldB_more (m b : List Int) : ∀ k, 64 * k ≤ m.length → foldB (m ++ b) k = foldB m k
  | 0, _ => rfl
  | k + 1, h => by
    rw [foldB, foldB, foldB_more m b k (by omega), List.drop_append_of_le_length (by omega), List.take_append_of_le_length (by simp; omega)]
/-- The eight bytes of a length, the highest first: the first j. -/
def be8N (x : Int) : Nat → List Int
  | 0 => []
  | j + 1 => be8N x j ++ [x / 2 ^ (56 - 8 * j) % 256]
theorem be8N_length (x : Int) : ∀ j, (be8N x j).length = j
  | 0 => rfl
  | j + 1 => by simp [be8N, be8N_length x j]
/-- The mark, and noughts. -/
def endL (z : Nat) : List Int := 128 :: List.replicate z 0
theorem endL_length (z : Nat) : (endL z).length = z + 1 := by simp [endL]
theorem endL_more (z : Nat) : endL (z + 1) = endL z ++ [0] := by simp [endL, List.replicate_succ']
/-- How many noughts are put in. -/
def zpad (n : Nat) : Nat := (119 - n % 64) % 64
def padN (n : Nat) : List Int := endL (zpad n) ++ be8N (n * 8) 8
theorem padN_length (n : Nat) : (padN n).length = 9 + zpad n := by simp [padN, be8N_length, endL_length]; omega
/-- The sum of bytes. -/
def shaW (m : List Int) : List Int := bytesN (foldB (m ++ padN m.length) ((m.length + (padN m.length).length) / 64)) 8
theorem shaW_length (m : List Int) : (shaW m).length = 32 := bytesN_length _ 8
end Go.Proofs.YtgdogjnjbinoiaaDoor.Q
end
