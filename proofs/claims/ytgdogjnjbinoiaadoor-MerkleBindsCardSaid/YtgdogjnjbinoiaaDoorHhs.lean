/- The program's comparison of two rows of bytes, held against equality. No program in sight. -/
import Derived.Test.YtgdogjnjbinoiaaDoorFsha
import Derived.Test.YtgdogjnjbinoiaaDoorDmrebX
namespace Go.Proofs.YtgdogjnjbinoiaaDoor.F
open Go.RowKit Go.Proofs.YtgdogjnjbinoiaaDoor.Q Go.Proofs.YtgdogjnjbinoiaaDoorW.PrintWords Go.Proofs.YtgdogjnjbinoiaaDoorW.PrintLast Go.Proofs.YtgdogjnjbinoiaaDoorW.PrintMore
set_option linter.unusedVariables false
theorem xor_byte (a b : Int) : 0 ≤ Go.bits .xor .u8 a b ∧ Go.bits .xor .u8 a b < 256 := by
  simp only [Go.bits]
  rw [IntKind.wrap_u8]
  omega
theorem or8_zero (a b : Int) (ha : 0 ≤ a ∧ a < 256) (hb : 0 ≤ b ∧ b < 256) : (0 ≤ Go.bits .or .u8 a b ∧ Go.bits .or .u8 a b < 256) ∧ (Go.bits .or .u8 a b = 0 ↔ a = 0 ∧ b = 0) := by
  obtain ⟨x, rfl⟩ := Int.eq_ofNat_of_zero_le ha.1
  obtain ⟨y, rfl⟩ := Int.eq_ofNat_of_zero_le hb.1
  have hx : x < 2 ^ 8 := by omega
  have hy : y < 2 ^ 8 := by omega
  rw [(bits_nat .u8 8 (by decide) wraps_u8 x y hx hy).2]
  have h1 := Nat.or_lt_two_pow hx hy
  have h2 : x ≤ x ||| y := Nat.left_le_or
  have h3 : y ≤ x ||| y := Nat.right_le_or
  refine ⟨⟨by omega, by omega⟩, ⟨fun h => ⟨by omega, by omega⟩, fun h => ?_⟩⟩
  obtain rfl : x = 0 := by omega
  obtain rfl : y = 0 := by omega
  rfl
theorem xor8_zero (a b : Int) (ha : 0 ≤ a ∧ a < 256) (hb : 0 ≤ b ∧ b < 256) : Go.bits .xor .u8 a b = 0 ↔ a = b := by
  obtain ⟨x, rfl⟩ := Int.eq_ofNat_of_zero_le ha.1
  obtain ⟨y, rfl⟩ := Int.eq_ofNat_of_zero_le hb.1
  have hx : x % 2 ^ IntKind.u8.bits = x := Nat.mod_eq_of_lt (by simp [IntKind.bits]; omega)
  have hy : y % 2 ^ IntKind.u8.bits = y := Nat.mod_eq_of_lt (by simp [IntKind.bits]; omega)
  have hlt : x ^^^ y < 2 ^ 8 := Nat.xor_lt_two_pow (by omega) (by omega)
  simp only [Go.bits, BitVec.ofInt_natCast, BitVec.toNat_xor, BitVec.toNat_ofNat, hx, hy]
  rw [IntKind.wrap_u8]
  have h1 : x ^^^ y = 0 → x = y := fun h => by
    have e : x ^^^ (x ^^^ y) = y := by rw [← Nat.xor_assoc, Nat.xor_self, Nat.zero_xor]
    rw [h, Nat.xor_zero] at e
    exact e
  have h2 : x = y → x ^^^ y = 0 := fun h => by rw [h, Nat.xor_self]
  constructor
  · intro h
    exact_mod_cast h1 (by omega)
  · intro h
    have := h2 (by omega)
    omega
theorem take_more (a b : List Int) (i : Nat) (ha : i < a.length) (hb : i < b.length) : a.take (i + 1) = b.take (i + 1) ↔ a.take i = b.take i ∧ rd a i = rd b i := by
  have ra : rd a i = a[i] := by simp [rd, List.getD_eq_getElem?_getD, ha]
  have rb : rd b i = b[i] := by simp [rd, List.getD_eq_getElem?_getD, hb]
  rw [List.take_succ_eq_append_getElem ha, List.take_succ_eq_append_getElem hb, ra, rb]
  constructor
  · intro h
    have := List.append_inj' h rfl
    exact ⟨this.1, by simpa using this.2⟩
  · rintro ⟨h1, h2⟩
    rw [h1, h2]
theorem hsame_ev (a b : List Int) (ha : Bytes a) (hb : Bytes b) (hn : a.length ≤ 140737488355328) : Ev (fun k => hmac_Same.f k a b) (decide (a = b)) := by
  unfold hmac_Same.f
  by_cases hl : (a.length : Int) = (b.length : Int)
  · simp only [if_pos hl]
    have hl' : a.length = b.length := by omega
    have key : ∀ (d i : Nat) (x : Int), a.length - i = d → i ≤ a.length → (0 ≤ x ∧ x < 256) → (x = 0 ↔ a.take i = b.take i) → Ev (fun k => hmac_Same.l0 k a b x (a.length : Int) (i : Int)) (decide (a = b)) := by
      intro d
      induction d with
      | zero =>
        intro i x hd hi hx hxe
        obtain rfl : i = a.length := by omega
        refine Ev.step (f := fun _ => some (x == 0)) (fun k => ?_) ?_
        · simp only [hmac_Same.l0]; rw [if_neg (by omega)]
        · rw [List.take_of_length_le (Nat.le_refl _), List.take_of_length_le (by omega)] at hxe
          have : (x == 0) = decide (a = b) := by
            by_cases h : a = b
            · rw [decide_eq_true h, beq_iff_eq]; exact hxe.2 h
            · rw [decide_eq_false h, beq_eq_false_iff_ne]; exact fun h2 => h (hxe.1 h2)
          rw [this]
          exact Ev.now _
      | succ d ih =>
        intro i x hd hi hx hxe
        have h1 : i < a.length := by omega
        have hor := or8_zero x (Go.bits .xor .u8 (rd a i) (rd b i)) hx (xor_byte _ _)
        have hxz := xor8_zero (rd a i) (rd b i) (bytes_rd ha _) (bytes_rd hb _)
        refine Ev.step (f := fun k => hmac_Same.l0 k a b (Go.bits .or .u8 x (Go.bits .xor .u8 (rd a i) (rd b i))) (a.length : Int) ((i + 1 : Nat) : Int)) (fun k => ?_) (ih (i + 1) _ (by omega) (by omega) hor.1 ?_)
        · simp only [hmac_Same.l0]
          rw [if_pos (by omega), if_pos (by omega), if_pos (by omega), if_pos (by omega), w64 (by omega) (by omega)]
          rfl
        · rw [hor.2, hxe, hxz, take_more a b i h1 (by omega)]
    exact key a.length 0 0 (by omega) (by omega) (by decide) (by simp)
  · simp only [if_neg hl]
    have : ¬ a = b := fun e => hl (by rw [e])
    rw [decide_eq_false this]
    exact Ev.now _
end Go.Proofs.YtgdogjnjbinoiaaDoor.F
