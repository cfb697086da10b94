/- Plain facts on the sums and tags that the program makes. -/
import Derived.Test.YtkennblgbfhjiaaGreatDoorDsha
import Derived.Test.YtkennblgbfhjiaaGreatDoorDhmac
import Derived.Laws.BitsLemmas
import Derived.KernelRfl
namespace Go.Proofs.YtkennblgbfhjiaaGreatDoor.F
open Go.RowKit Go.Proofs.YtkennblgbfhjiaaGreatDoorW.PrintWords Go.Proofs.YtkennblgbfhjiaaGreatDoorW.PrintLast Go.Proofs.YtkennblgbfhjiaaGreatDoorW.PrintMore Go.Proofs.YtkennblgbfhjiaaGreatDoor.Q
set_option linter.unusedVariables false
set_option linter.unusedSimpArgs false
theorem w64 {n : Int} (h0 : -9223372036854775808 ≤ n) (h1 : n < 9223372036854775808) : wrap64 n = n := by unfold wrap64; omega
theorem wu64 {n : Int} (h0 : 0 ≤ n) (h1 : n < 18446744073709551616) : IntKind.u64.wrap n = n := by
  have : IntKind.u64.wrap n = n % 18446744073709551616 := by simp [IntKind.wrap, IntKind.bits, IntKind.signed]
  rw [this]; omega
theorem wf_u8 {x : Int} (h : (Lit.int .u8 x).wf = true) : 0 ≤ x ∧ x < 256 := by
  simp only [Lit.wf, Bool.and_eq_true, decide_eq_true_eq] at h
  have h1 : IntKind.u8.min = 0 := by decide
  have h2 : IntKind.u8.max = 255 := by decide
  omega
def Bytes (l : List Int) : Prop := ∀ x ∈ l, 0 ≤ x ∧ x < 256
theorem bytes_of {l : List Int} (h : ∀ x ∈ l, (Lit.int .u8 x).wf = true) : Bytes l := fun x hx => wf_u8 (h x hx)
theorem bytes_rd {l : List Int} (h : Bytes l) (i : Int) : 0 ≤ rd l i ∧ rd l i < 256 := by
  unfold rd
  rw [List.getD_eq_getElem?_getD]
  cases hh : l[i.toNat]? with
  | none => simp
  | some x => exact h x (List.mem_of_getElem? hh)
theorem Bytes.append {a b : List Int} (ha : Bytes a) (hb : Bytes b) : Bytes (a ++ b) := fun x hx => by
  rcases List.mem_append.1 hx with h | h
  · exact ha x h
  · exact hb x h
theorem Bytes.take {a : List Int} (ha : Bytes a) (n : Nat) : Bytes (a.take n) := fun x hx => ha x (List.mem_of_mem_take hx)
theorem Bytes.drop {a : List Int} (ha : Bytes a) (n : Nat) : Bytes (a.drop n) := fun x hx => ha x (List.mem_of_mem_drop hx)
theorem be8_bytes (x : Int) : ∀ j, Bytes (be8N x j)
  | 0 => fun x hx => by cases hx
  | j + 1 => (be8_bytes x j).append (fun y hy => by
    simp only [List.mem_singleton] at hy
    subst hy
    omega)
theorem endL_bytes (z : Nat) : Bytes (endL z) := fun x hx => by
  simp only [endL, List.mem_cons, List.mem_replicate] at hx
  omega
theorem pad_bytes (n : Nat) : Bytes (padN n) := (endL_bytes _).append (be8_bytes _ _)
theorem sha_f (b : List Int) (hb : b.length ≤ 549755813888) : sha_Sum.f b = some (shaW b) := by unfold sha_Sum.f; rw [if_pos hb]
theorem bytesN_bytes (s : List Int) : ∀ k, Bytes (bytesN s k)
  | 0 => fun x hx => by cases hx
  | k + 1 => (bytesN_bytes s k).append (fun x hx => by
    simp only [be4, List.mem_cons, List.not_mem_nil, or_false] at hx
    omega)
theorem shaW_bytes (b : List Int) : Bytes (shaW b) := bytesN_bytes _ 8
theorem xor_byte (a b : Int) : 0 ≤ Go.bits .xor .u8 a b ∧ Go.bits .xor .u8 a b < 256 := by
  simp only [Go.bits]
  rw [IntKind.wrap_u8]
  omega
theorem set_bytes {l : List Int} (h : Bytes l) (i : Nat) (v : Int) (hv : 0 ≤ v ∧ v < 256) : Bytes (l.set i v) := fun x hx => by
  rcases List.mem_or_eq_of_mem_set hx with h1 | h1
  · exact h x h1
  · rw [h1]; exact hv
theorem xorN_bytes {K : List Int} (h : Bytes K) (x : Int) : ∀ j, Bytes (xorN K x j)
  | 0 => h
  | j + 1 => set_bytes (xorN_bytes h x j) _ _ (xor_byte _ _)
theorem shortW_bytes {k : List Int} (h : Bytes k) : Bytes (shortW k) := by
  unfold shortW
  split
  · exact shaW_bytes k
  · exact h
theorem shortW_le (k : List Int) : (shortW k).length ≤ 64 := by
  unfold shortW
  split
  · rw [shaW_length]; decide
  · omega
theorem keyW_bytes {k : List Int} (h : Bytes k) : Bytes (keyW k) := h.append (fun x hx => by
  rw [List.mem_replicate] at hx
  omega)
theorem keyW_len (k : List Int) : (keyW (shortW k)).length = 64 := by
  have := shortW_le k
  simp only [keyW, List.length_append, List.length_replicate]
  omega
theorem padW_bytes {k : List Int} (h : Bytes k) (x : Int) : Bytes (padW k x) := xorN_bytes (keyW_bytes (shortW_bytes h)) x 64
theorem padW_len (k : List Int) (x : Int) : (padW k x).length = 64 := by rw [padW, xorN_length, keyW_len]
theorem macW_one (key b : List Int) : macW key [b] = shaW (padW key 92 ++ shaW (padW key 54 ++ b)) := by
  unfold macW summedW padW
  simp
theorem mac_len (key b : List Int) : (macW key [b]).length = 32 := by rw [macW_one, shaW_length]
theorem mac_bytes (key b : List Int) : Bytes (macW key [b]) := by rw [macW_one]; exact shaW_bytes _
theorem mac_f (key b : List Int) (hk : key.length ≤ 549755813888) (hb : b.length ≤ 274877906944) : hmac_MAC.f key b = some (macW key [b]) := by unfold hmac_MAC.f; rw [if_pos ⟨hk, hb⟩]
theorem or8_zero (a b : Int) (ha : 0 ≤ a ∧ a < 256) (hb : 0 ≤ b ∧ b < 256) : (0 ≤ Go.bits .or .u8 a b ∧ Go.bits .or .u8 a b < 256) ∧ (Go.bits .or .u8 a b = 0 ↔ a = 0 ∧ b = 0) := by
  obtain ⟨x, rfl⟩ := Int.eq_ofNat_of_zero_le ha.1
  obtain ⟨y, rfl⟩ := Int.eq_ofNat_of_zero_le hb.1
  have hx : x < 2 ^ 8 := by omega
  have hy : y < 2 ^ 8 := by omega
  rw [(bits_nat .u8 8 (by decide) wraps_u8 x y hx hy).2]
  have h1 := Nat.or_lt_two_pow hx hy
  have h2 : x ≤ x ||| y := Nat.left_le_or
  have h3 : y ≤ x ||| y := Nat.right_le_or
  refine ⟨⟨by omega, by omega⟩, ⟨fun h => ⟨by omega, by omega⟩, fun h => ?_⟩⟩
  obtain rfl : x = 0 := by omega
  obtain rfl : y = 0 := by omega
  rfl
theorem xor8_zero (a b : Int) (ha : 0 ≤ a ∧ a < 256) (hb : 0 ≤ b ∧ b < 256) : Go.bits .xor .u8 a b = 0 ↔ a = b := by
  obtain ⟨x, rfl⟩ := Int.eq_ofNat_of_zero_le ha.1
  obtain ⟨y, rfl⟩ := Int.eq_ofNat_of_zero_le hb.1
  have hx : x % 2 ^ IntKind.u8.bits = x := Nat.mod_eq_of_lt (by simp [IntKind.bits]; omega)
  have hy : y % 2 ^ IntKind.u8.bits = y := Nat.mod_eq_of_lt (by simp [IntKind.bits]; omega)
  have hlt : x ^^^ y < 2 ^ 8 := Nat.xor_lt_two_pow (by omega) (by omega)
  simp only [Go.bits, BitVec.ofInt_natCast, BitVec.toNat_xor, BitVec.toNat_ofNat, hx, hy]
  rw [IntKind.wrap_u8]
  have h1 : x ^^^ y = 0 → x = y := fun h => by
    have e : x ^^^ (x ^^^ y) = y := by rw [← Nat.xor_assoc, Nat.xor_self, Nat.zero_xor]
    rw [h, Nat.xor_zero] at e
    exact e
  have h2 : x = y → x ^^^ y = 0 := fun h => by rw [h, Nat.xor_self]
  constructor
  · intro h
    exact_mod_cast h1 (by omega)
  · intro h
    have := h2 (by omega)
    omega
theorem take_more (a b : List Int) (i : Nat) (ha : i < a.length) (hb : i < b.length) : a.take (i + 1) = b.take (i + 1) ↔ a.take i = b.take i ∧ rd a i = rd b i := by
  have ra : rd a i = a[i] := by simp [rd, List.getD_eq_getElem?_getD, ha]
  have rb : rd b i = b[i] := by simp [rd, List.getD_eq_getElem?_getD, hb]
  rw [List.take_succ_eq_append_getElem ha, List.take_succ_eq_append_getElem hb, ra, rb]
  constructor
  · intro h
    have := List.append_inj' h rfl
    exact ⟨this.1, by simpa using this.2⟩
  · rintro ⟨h1, h2⟩
    rw [h1, h2]
theorem hsame_ev (a b : List Int) (ha : Bytes a) (hb : Bytes b) (hn : a.length ≤ 140737488355328) : Ev (fun k => hmac_Same.f k a b) (decide (a = b)) := by
  unfold hmac_Same.f
  by_cases hl : (a.length : Int) = (b.length : Int)
  · simp only [if_pos hl]
    have hl' : a.length = b.length := by omega
    have key : ∀ (d i : Nat) (x : Int), a.length - i = d → i ≤ a.length → (0 ≤ x ∧ x < 256) → (x = 0 ↔ a.take i = b.take i) → Ev (fun k => hmac_Same.l0 k a b x (a.length : Int) (i : Int)) (decide (a = b)) := by
      intro d
      induction d with
      | zero =>
        intro i x hd hi hx hxe
        obtain rfl : i = a.length := by omega
        refine Ev.step (f := fun _ => some (x == 0)) (fun k => ?_) ?_
        · simp only [hmac_Same.l0]; rw [if_neg (by omega)]
        · rw [List.take_of_length_le (Nat.le_refl _), List.take_of_length_le (by omega)] at hxe
          have : (x == 0) = decide (a = b) := by
            by_cases h : a = b
            · rw [decide_eq_true h, beq_iff_eq]; exact hxe.2 h
            · rw [decide_eq_false h, beq_eq_false_iff_ne]; exact fun h2 => h (hxe.1 h2)
          rw [this]
          exact Ev.now _
      | succ d ih =>
        intro i x hd hi hx hxe
        have h1 : i < a.length := by omega
        have hor := or8_zero x (Go.bits .xor .u8 (rd a i) (rd b i)) hx (xor_byte _ _)
        have hxz := xor8_zero (rd a i) (rd b i) (bytes_rd ha _) (bytes_rd hb _)
        refine Ev.step (f := fun k => hmac_Same.l0 k a b (Go.bits .or .u8 x (Go.bits .xor .u8 (rd a i) (rd b i))) (a.length : Int) ((i + 1 : Nat) : Int)) (fun k => ?_) (ih (i + 1) _ (by omega) (by omega) hor.1 ?_)
        · simp only [hmac_Same.l0]
          rw [if_pos (by omega), if_pos (by omega), if_pos (by omega), if_pos (by omega), w64 (by omega) (by omega)]
          rfl
        · rw [hor.2, hxe, hxz, take_more a b i h1 (by omega)]
    exact key a.length 0 0 (by omega) (by omega) (by decide) (by simp)
  · simp only [if_neg hl]
    have : ¬ a = b := fun e => hl (by rw [e])
    rw [decide_eq_false this]
    exact Ev.now _
theorem check_ev (key b tag : List Int) (hk : key.length ≤ 549755813888) (hb : b.length ≤ 274877906944) (ht : Bytes tag) : Ev (fun k => hmac_Check.f k key b tag) (decide (macW key [b] = tag)) := by
  unfold hmac_Check.f
  simp only [mac_f key b hk hb, Option.bind_some]
  exact Ev.bind (hsame_ev _ _ (mac_bytes _ _) ht (by rw [mac_len]; decide)) (Ev.now _)
theorem macW_flat (key : List Int) (bs : List (List Int)) : macW key bs = macW key [bs.flatten] := by
  unfold macW summedW
  simp
theorem tagN_len (key info : List Int) (i : Nat) : (tagN key info (i + 1)).length = 32 := by rw [tagN, macW_flat, mac_len]
theorem tagN_short (key info : List Int) : ∀ i, (tagN key info i).length ≤ 32
  | 0 => by simp [tagN]
  | i + 1 => by rw [tagN_len]; omega
theorem tagN_bytes (key info : List Int) : ∀ i, Bytes (tagN key info i)
  | 0 => fun x hx => by cases hx
  | i + 1 => by rw [tagN, macW_flat]; exact mac_bytes _ _
theorem expN_len (key info : List Int) : ∀ i, (expN key info i).length = 32 * i
  | 0 => rfl
  | i + 1 => by rw [expN, List.length_append, expN_len key info i, tagN_len]; omega
theorem expN_more (key info : List Int) (i : Nat) : ∀ m, (expN key info (i + m)).take (32 * i) = expN key info i
  | 0 => List.take_of_length_le (by rw [expN_len]; omega)
  | m + 1 => by
    rw [← Nat.add_assoc, expN, List.take_append_of_le_length (by rw [expN_len]; omega), expN_more key info i m]
theorem expN_take (key info : List Int) (i n : Nat) (hi : i ≤ 255) (hn : n ≤ 32 * i) : (expN key info i).take n = (expN key info 255).take n := by
  rw [← expN_more key info i (255 - i), List.take_take, Nat.min_eq_left hn, Nat.add_sub_cancel' hi]
theorem tag_one (key info : List Int) (i : Nat) (hi : i < 255) : macW key [tagN key info i ++ info ++ [((i : Int) + 1) % 256]] = tagN key info (i + 1) := by
  rw [tagN, macW_flat key [_, _, _], Int.emod_eq_of_lt (by omega) (by omega)]
  simp
theorem exp32 (key info : List Int) : (expN key info 255).take 32 = macW key [info ++ [1]] := by
  have h3 := expN_more key info 1 254
  have h4 := tag_one key info 0 (by decide)
  have h5 : expN key info 1 = tagN key info 1 := rfl
  rw [show (1 + 254 : Nat) = 255 from rfl, h5] at h3
  rw [show (32 : Nat) = 32 * 1 from rfl, h3, ← h4]
  rfl
end Go.Proofs.YtkennblgbfhjiaaGreatDoor.F
