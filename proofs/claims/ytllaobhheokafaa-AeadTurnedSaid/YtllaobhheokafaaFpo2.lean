/- Plain facts on what Poly1305 comes to: bytes to limbs and back. No program in sight; each fact under the conditions that it states. -/
import Derived.Test.YtllaobhheokafaaFpoly
namespace Go.Proofs.Ytllaobhheokafaa.F
open Go.RowKit Go.Proofs.Ytllaobhheokafaa.Q Go.Proofs.YtllaobhheokafaaW.PrintWords
set_option linter.unusedVariables false
/-- The number that the first k bytes stand for. -/
def NK (b : List Int) : Nat → Int
  | 0 => 0
  | k + 1 => NK b k + rd b (k : Nat) * 256 ^ k
theorem NK_bd (b : List Int) (hb : ∀ k : Nat, 0 ≤ rd b k ∧ rd b k < 256) : ∀ k, 0 ≤ NK b k ∧ NK b k < 256 ^ k
  | 0 => ⟨Int.le_refl 0, by show (0 : Int) < 256 ^ 0; decide⟩
  | k + 1 => by
    have h := NK_bd b hb k
    have hx := hb k
    have hp : (0 : Int) < 256 ^ k := Int.pow_pos (by decide)
    have h1 : rd b (k : Nat) * 256 ^ k ≤ 255 * 256 ^ k := Int.mul_le_mul_of_nonneg_right (by omega) (by omega)
    have h2 : 0 ≤ rd b (k : Nat) * 256 ^ k := Int.mul_nonneg hx.1 (by omega)
    rw [NK, Int.pow_succ]
    omega
theorem of_0 (b : List Int) (hb : ∀ k : Nat, 0 ≤ rd b k ∧ rd b k < 256) : ∃ v0, ofN b 0 = [v0, 0, 0, 0, 0] ∧ (0 ≤ v0 ∧ v0 < 1) ∧ V5 v0 0 0 0 0 = NK b 0 := ⟨0, rfl, by decide, rfl⟩
theorem of_1 (b : List Int) (hb : ∀ k : Nat, 0 ≤ rd b k ∧ rd b k < 256) : ∃ v0, ofN b 1 = [v0, 0, 0, 0, 0] ∧ (0 ≤ v0 ∧ v0 < 256) ∧ V5 v0 0 0 0 0 = NK b 1 := by
  obtain ⟨v0, h, h0, hv⟩ := of_0 b hb
  obtain ⟨x, hx⟩ : ∃ x, x = rd b ((0 : Nat) : Int) := ⟨_, rfl⟩
  have hxb := hb 0
  rw [← hx] at hxb
  have hof : ofV b 0 = x * 1 := by
    unfold ofV
    rw [← hx, show (2 : Int) ^ (8 * 0 % 26) = 1 by decide, wrap64u (n := x) (by omega) (by omega), wrap64u (by omega) (by omega)]
  refine ⟨v0 + x * 1 % 67108864, ?_, by omega, ?_⟩
  · rw [ofN, h, hof]
    rw [if_neg (by omega)]
    show [IntKind.u64.wrap (v0 + Go.bits .and .u64 (x * 1) 67108863), 0, 0, 0, 0] = _
    rw [mask26 _ (by omega) (by omega), wrap64u (by omega) (by omega)]
  · show _ = NK b 0 + rd b ((0 : Nat) : Int) * 256 ^ 0
    rw [← hx, ← hv, show (256 : Int) ^ 0 = 1 by decide]
    unfold V5
    omega
theorem of_2 (b : List Int) (hb : ∀ k : Nat, 0 ≤ rd b k ∧ rd b k < 256) : ∃ v0, ofN b 2 = [v0, 0, 0, 0, 0] ∧ (0 ≤ v0 ∧ v0 < 65536) ∧ V5 v0 0 0 0 0 = NK b 2 := by
  obtain ⟨v0, h, h0, hv⟩ := of_1 b hb
  obtain ⟨x, hx⟩ : ∃ x, x = rd b ((1 : Nat) : Int) := ⟨_, rfl⟩
  have hxb := hb 1
  rw [← hx] at hxb
  have hof : ofV b 1 = x * 256 := by
    unfold ofV
    rw [← hx, show (2 : Int) ^ (8 * 1 % 26) = 256 by decide, wrap64u (n := x) (by omega) (by omega), wrap64u (by omega) (by omega)]
  refine ⟨v0 + x * 256 % 67108864, ?_, by omega, ?_⟩
  · rw [ofN, h, hof]
    rw [if_neg (by omega)]
    show [IntKind.u64.wrap (v0 + Go.bits .and .u64 (x * 256) 67108863), 0, 0, 0, 0] = _
    rw [mask26 _ (by omega) (by omega), wrap64u (by omega) (by omega)]
  · show _ = NK b 1 + rd b ((1 : Nat) : Int) * 256 ^ 1
    rw [← hx, ← hv, show (256 : Int) ^ 1 = 256 by decide]
    unfold V5
    omega
theorem of_3 (b : List Int) (hb : ∀ k : Nat, 0 ≤ rd b k ∧ rd b k < 256) : ∃ v0, ofN b 3 = [v0, 0, 0, 0, 0] ∧ (0 ≤ v0 ∧ v0 < 16777216) ∧ V5 v0 0 0 0 0 = NK b 3 := by
  obtain ⟨v0, h, h0, hv⟩ := of_2 b hb
  obtain ⟨x, hx⟩ : ∃ x, x = rd b ((2 : Nat) : Int) := ⟨_, rfl⟩
  have hxb := hb 2
  rw [← hx] at hxb
  have hof : ofV b 2 = x * 65536 := by
    unfold ofV
    rw [← hx, show (2 : Int) ^ (8 * 2 % 26) = 65536 by decide, wrap64u (n := x) (by omega) (by omega), wrap64u (by omega) (by omega)]
  refine ⟨v0 + x * 65536 % 67108864, ?_, by omega, ?_⟩
  · rw [ofN, h, hof]
    rw [if_neg (by omega)]
    show [IntKind.u64.wrap (v0 + Go.bits .and .u64 (x * 65536) 67108863), 0, 0, 0, 0] = _
    rw [mask26 _ (by omega) (by omega), wrap64u (by omega) (by omega)]
  · show _ = NK b 2 + rd b ((2 : Nat) : Int) * 256 ^ 2
    rw [← hx, ← hv, show (256 : Int) ^ 2 = 65536 by decide]
    unfold V5
    omega
theorem of_4 (b : List Int) (hb : ∀ k : Nat, 0 ≤ rd b k ∧ rd b k < 256) : ∃ v0 v1, ofN b 4 = [v0, v1, 0, 0, 0] ∧ (0 ≤ v0 ∧ v0 < 67108864) ∧ (0 ≤ v1 ∧ v1 < 64) ∧ V5 v0 v1 0 0 0 = NK b 4 := by
  obtain ⟨v0, h, h0, hv⟩ := of_3 b hb
  obtain ⟨x, hx⟩ : ∃ x, x = rd b ((3 : Nat) : Int) := ⟨_, rfl⟩
  have hxb := hb 3
  rw [← hx] at hxb
  have hof : ofV b 3 = x * 16777216 := by
    unfold ofV
    rw [← hx, show (2 : Int) ^ (8 * 3 % 26) = 16777216 by decide, wrap64u (n := x) (by omega) (by omega), wrap64u (by omega) (by omega)]
  refine ⟨v0 + x * 16777216 % 67108864, x * 16777216 / 67108864, ?_, by omega, by omega, ?_⟩
  · rw [ofN, h, hof]
    split
    · show [IntKind.u64.wrap (v0 + Go.bits .and .u64 (x * 16777216) 67108863), IntKind.u64.wrap (0 + x * 16777216 / 67108864), 0, 0, 0] = _
      rw [mask26 _ (by omega) (by omega), Int.zero_add, wrap64u (n := _ / 67108864) (by omega) (by omega), wrap64u (by omega) (by omega)]
    · have h0 : x * 16777216 / 67108864 = 0 := by omega
      show [IntKind.u64.wrap (v0 + Go.bits .and .u64 (x * 16777216) 67108863), 0, 0, 0, 0] = _
      rw [mask26 _ (by omega) (by omega), wrap64u (by omega) (by omega), h0]
  · show _ = NK b 3 + rd b ((3 : Nat) : Int) * 256 ^ 3
    rw [← hx, ← hv, show (256 : Int) ^ 3 = 16777216 by decide]
    unfold V5
    omega
theorem of_5 (b : List Int) (hb : ∀ k : Nat, 0 ≤ rd b k ∧ rd b k < 256) : ∃ v0 v1, ofN b 5 = [v0, v1, 0, 0, 0] ∧ (0 ≤ v0 ∧ v0 < 67108864) ∧ (0 ≤ v1 ∧ v1 < 16384) ∧ V5 v0 v1 0 0 0 = NK b 5 := by
  obtain ⟨v0, v1, h, h0, h1, hv⟩ := of_4 b hb
  obtain ⟨x, hx⟩ : ∃ x, x = rd b ((4 : Nat) : Int) := ⟨_, rfl⟩
  have hxb := hb 4
  rw [← hx] at hxb
  have hof : ofV b 4 = x * 64 := by
    unfold ofV
    rw [← hx, show (2 : Int) ^ (8 * 4 % 26) = 64 by decide, wrap64u (n := x) (by omega) (by omega), wrap64u (by omega) (by omega)]
  refine ⟨v0, v1 + x * 64 % 67108864, ?_, by omega, by omega, ?_⟩
  · rw [ofN, h, hof]
    rw [if_neg (by omega)]
    show [v0, IntKind.u64.wrap (v1 + Go.bits .and .u64 (x * 64) 67108863), 0, 0, 0] = _
    rw [mask26 _ (by omega) (by omega), wrap64u (by omega) (by omega)]
  · show _ = NK b 4 + rd b ((4 : Nat) : Int) * 256 ^ 4
    rw [← hx, ← hv, show (256 : Int) ^ 4 = 4294967296 by decide]
    unfold V5
    omega
theorem of_6 (b : List Int) (hb : ∀ k : Nat, 0 ≤ rd b k ∧ rd b k < 256) : ∃ v0 v1, ofN b 6 = [v0, v1, 0, 0, 0] ∧ (0 ≤ v0 ∧ v0 < 67108864) ∧ (0 ≤ v1 ∧ v1 < 4194304) ∧ V5 v0 v1 0 0 0 = NK b 6 := by
  obtain ⟨v0, v1, h, h0, h1, hv⟩ := of_5 b hb
  obtain ⟨x, hx⟩ : ∃ x, x = rd b ((5 : Nat) : Int) := ⟨_, rfl⟩
  have hxb := hb 5
  rw [← hx] at hxb
  have hof : ofV b 5 = x * 16384 := by
    unfold ofV
    rw [← hx, show (2 : Int) ^ (8 * 5 % 26) = 16384 by decide, wrap64u (n := x) (by omega) (by omega), wrap64u (by omega) (by omega)]
  refine ⟨v0, v1 + x * 16384 % 67108864, ?_, by omega, by omega, ?_⟩
  · rw [ofN, h, hof]
    rw [if_neg (by omega)]
    show [v0, IntKind.u64.wrap (v1 + Go.bits .and .u64 (x * 16384) 67108863), 0, 0, 0] = _
    rw [mask26 _ (by omega) (by omega), wrap64u (by omega) (by omega)]
  · show _ = NK b 5 + rd b ((5 : Nat) : Int) * 256 ^ 5
    rw [← hx, ← hv, show (256 : Int) ^ 5 = 1099511627776 by decide]
    unfold V5
    omega
theorem of_7 (b : List Int) (hb : ∀ k : Nat, 0 ≤ rd b k ∧ rd b k < 256) : ∃ v0 v1 v2, ofN b 7 = [v0, v1, v2, 0, 0] ∧ (0 ≤ v0 ∧ v0 < 67108864) ∧ (0 ≤ v1 ∧ v1 < 67108864) ∧ (0 ≤ v2 ∧ v2 < 16) ∧ V5 v0 v1 v2 0 0 = NK b 7 := by
  obtain ⟨v0, v1, h, h0, h1, hv⟩ := of_6 b hb
  obtain ⟨x, hx⟩ : ∃ x, x = rd b ((6 : Nat) : Int) := ⟨_, rfl⟩
  have hxb := hb 6
  rw [← hx] at hxb
  have hof : ofV b 6 = x * 4194304 := by
    unfold ofV
    rw [← hx, show (2 : Int) ^ (8 * 6 % 26) = 4194304 by decide, wrap64u (n := x) (by omega) (by omega), wrap64u (by omega) (by omega)]
  refine ⟨v0, v1 + x * 4194304 % 67108864, x * 4194304 / 67108864, ?_, by omega, by omega, by omega, ?_⟩
  · rw [ofN, h, hof]
    split
    · show [v0, IntKind.u64.wrap (v1 + Go.bits .and .u64 (x * 4194304) 67108863), IntKind.u64.wrap (0 + x * 4194304 / 67108864), 0, 0] = _
      rw [mask26 _ (by omega) (by omega), Int.zero_add, wrap64u (n := _ / 67108864) (by omega) (by omega), wrap64u (by omega) (by omega)]
    · have h0 : x * 4194304 / 67108864 = 0 := by omega
      show [v0, IntKind.u64.wrap (v1 + Go.bits .and .u64 (x * 4194304) 67108863), 0, 0, 0] = _
      rw [mask26 _ (by omega) (by omega), wrap64u (by omega) (by omega), h0]
  · show _ = NK b 6 + rd b ((6 : Nat) : Int) * 256 ^ 6
    rw [← hx, ← hv, show (256 : Int) ^ 6 = 281474976710656 by decide]
    unfold V5
    omega
theorem of_8 (b : List Int) (hb : ∀ k : Nat, 0 ≤ rd b k ∧ rd b k < 256) : ∃ v0 v1 v2, ofN b 8 = [v0, v1, v2, 0, 0] ∧ (0 ≤ v0 ∧ v0 < 67108864) ∧ (0 ≤ v1 ∧ v1 < 67108864) ∧ (0 ≤ v2 ∧ v2 < 4096) ∧ V5 v0 v1 v2 0 0 = NK b 8 := by
  obtain ⟨v0, v1, v2, h, h0, h1, h2, hv⟩ := of_7 b hb
  obtain ⟨x, hx⟩ : ∃ x, x = rd b ((7 : Nat) : Int) := ⟨_, rfl⟩
  have hxb := hb 7
  rw [← hx] at hxb
  have hof : ofV b 7 = x * 16 := by
    unfold ofV
    rw [← hx, show (2 : Int) ^ (8 * 7 % 26) = 16 by decide, wrap64u (n := x) (by omega) (by omega), wrap64u (by omega) (by omega)]
  refine ⟨v0, v1, v2 + x * 16 % 67108864, ?_, by omega, by omega, by omega, ?_⟩
  · rw [ofN, h, hof]
    rw [if_neg (by omega)]
    show [v0, v1, IntKind.u64.wrap (v2 + Go.bits .and .u64 (x * 16) 67108863), 0, 0] = _
    rw [mask26 _ (by omega) (by omega), wrap64u (by omega) (by omega)]
  · show _ = NK b 7 + rd b ((7 : Nat) : Int) * 256 ^ 7
    rw [← hx, ← hv, show (256 : Int) ^ 7 = 72057594037927936 by decide]
    unfold V5
    omega
theorem of_9 (b : List Int) (hb : ∀ k : Nat, 0 ≤ rd b k ∧ rd b k < 256) : ∃ v0 v1 v2, ofN b 9 = [v0, v1, v2, 0, 0] ∧ (0 ≤ v0 ∧ v0 < 67108864) ∧ (0 ≤ v1 ∧ v1 < 67108864) ∧ (0 ≤ v2 ∧ v2 < 1048576) ∧ V5 v0 v1 v2 0 0 = NK b 9 := by
  obtain ⟨v0, v1, v2, h, h0, h1, h2, hv⟩ := of_8 b hb
  obtain ⟨x, hx⟩ : ∃ x, x = rd b ((8 : Nat) : Int) := ⟨_, rfl⟩
  have hxb := hb 8
  rw [← hx] at hxb
  have hof : ofV b 8 = x * 4096 := by
    unfold ofV
    rw [← hx, show (2 : Int) ^ (8 * 8 % 26) = 4096 by decide, wrap64u (n := x) (by omega) (by omega), wrap64u (by omega) (by omega)]
  refine ⟨v0, v1, v2 + x * 4096 % 67108864, ?_, by omega, by omega, by omega, ?_⟩
  · rw [ofN, h, hof]
    rw [if_neg (by omega)]
    show [v0, v1, IntKind.u64.wrap (v2 + Go.bits .and .u64 (x * 4096) 67108863), 0, 0] = _
    rw [mask26 _ (by omega) (by omega), wrap64u (by omega) (by omega)]
  · show _ = NK b 8 + rd b ((8 : Nat) : Int) * 256 ^ 8
    rw [← hx, ← hv, show (256 : Int) ^ 8 = 18446744073709551616 by decide]
    unfold V5
    omega
theorem of_10 (b : List Int) (hb : ∀ k : Nat, 0 ≤ rd b k ∧ rd b k < 256) : ∃ v0 v1 v2 v3, ofN b 10 = [v0, v1, v2, v3, 0] ∧ (0 ≤ v0 ∧ v0 < 67108864) ∧ (0 ≤ v1 ∧ v1 < 67108864) ∧ (0 ≤ v2 ∧ v2 < 67108864) ∧ (0 ≤ v3 ∧ v3 < 4) ∧ V5 v0 v1 v2 v3 0 = NK b 10 := by
  obtain ⟨v0, v1, v2, h, h0, h1, h2, hv⟩ := of_9 b hb
  obtain ⟨x, hx⟩ : ∃ x, x = rd b ((9 : Nat) : Int) := ⟨_, rfl⟩
  have hxb := hb 9
  rw [← hx] at hxb
  have hof : ofV b 9 = x * 1048576 := by
    unfold ofV
    rw [← hx, show (2 : Int) ^ (8 * 9 % 26) = 1048576 by decide, wrap64u (n := x) (by omega) (by omega), wrap64u (by omega) (by omega)]
  refine ⟨v0, v1, v2 + x * 1048576 % 67108864, x * 1048576 / 67108864, ?_, by omega, by omega, by omega, by omega, ?_⟩
  · rw [ofN, h, hof]
    split
    · show [v0, v1, IntKind.u64.wrap (v2 + Go.bits .and .u64 (x * 1048576) 67108863), IntKind.u64.wrap (0 + x * 1048576 / 67108864), 0] = _
      rw [mask26 _ (by omega) (by omega), Int.zero_add, wrap64u (n := _ / 67108864) (by omega) (by omega), wrap64u (by omega) (by omega)]
    · have h0 : x * 1048576 / 67108864 = 0 := by omega
      show [v0, v1, IntKind.u64.wrap (v2 + Go.bits .and .u64 (x * 1048576) 67108863), 0, 0] = _
      rw [mask26 _ (by omega) (by omega), wrap64u (by omega) (by omega), h0]
  · show _ = NK b 9 + rd b ((9 : Nat) : Int) * 256 ^ 9
    rw [← hx, ← hv, show (256 : Int) ^ 9 = 4722366482869645213696 by decide]
    unfold V5
    omega
theorem of_11 (b : List Int) (hb : ∀ k : Nat, 0 ≤ rd b k ∧ rd b k < 256) : ∃ v0 v1 v2 v3, ofN b 11 = [v0, v1, v2, v3, 0] ∧ (0 ≤ v0 ∧ v0 < 67108864) ∧ (0 ≤ v1 ∧ v1 < 67108864) ∧ (0 ≤ v2 ∧ v2 < 67108864) ∧ (0 ≤ v3 ∧ v3 < 1024) ∧ V5 v0 v1 v2 v3 0 = NK b 11 := by
  obtain ⟨v0, v1, v2, v3, h, h0, h1, h2, h3, hv⟩ := of_10 b hb
  obtain ⟨x, hx⟩ : ∃ x, x = rd b ((10 : Nat) : Int) := ⟨_, rfl⟩
  have hxb := hb 10
  rw [← hx] at hxb
  have hof : ofV b 10 = x * 4 := by
    unfold ofV
    rw [← hx, show (2 : Int) ^ (8 * 10 % 26) = 4 by decide, wrap64u (n := x) (by omega) (by omega), wrap64u (by omega) (by omega)]
  refine ⟨v0, v1, v2, v3 + x * 4 % 67108864, ?_, by omega, by omega, by omega, by omega, ?_⟩
  · rw [ofN, h, hof]
    rw [if_neg (by omega)]
    show [v0, v1, v2, IntKind.u64.wrap (v3 + Go.bits .and .u64 (x * 4) 67108863), 0] = _
    rw [mask26 _ (by omega) (by omega), wrap64u (by omega) (by omega)]
  · show _ = NK b 10 + rd b ((10 : Nat) : Int) * 256 ^ 10
    rw [← hx, ← hv, show (256 : Int) ^ 10 = 1208925819614629174706176 by decide]
    unfold V5
    omega
theorem of_12 (b : List Int) (hb : ∀ k : Nat, 0 ≤ rd b k ∧ rd b k < 256) : ∃ v0 v1 v2 v3, ofN b 12 = [v0, v1, v2, v3, 0] ∧ (0 ≤ v0 ∧ v0 < 67108864) ∧ (0 ≤ v1 ∧ v1 < 67108864) ∧ (0 ≤ v2 ∧ v2 < 67108864) ∧ (0 ≤ v3 ∧ v3 < 262144) ∧ V5 v0 v1 v2 v3 0 = NK b 12 := by
  obtain ⟨v0, v1, v2, v3, h, h0, h1, h2, h3, hv⟩ := of_11 b hb
  obtain ⟨x, hx⟩ : ∃ x, x = rd b ((11 : Nat) : Int) := ⟨_, rfl⟩
  have hxb := hb 11
  rw [← hx] at hxb
  have hof : ofV b 11 = x * 1024 := by
    unfold ofV
    rw [← hx, show (2 : Int) ^ (8 * 11 % 26) = 1024 by decide, wrap64u (n := x) (by omega) (by omega), wrap64u (by omega) (by omega)]
  refine ⟨v0, v1, v2, v3 + x * 1024 % 67108864, ?_, by omega, by omega, by omega, by omega, ?_⟩
  · rw [ofN, h, hof]
    rw [if_neg (by omega)]
    show [v0, v1, v2, IntKind.u64.wrap (v3 + Go.bits .and .u64 (x * 1024) 67108863), 0] = _
    rw [mask26 _ (by omega) (by omega), wrap64u (by omega) (by omega)]
  · show _ = NK b 11 + rd b ((11 : Nat) : Int) * 256 ^ 11
    rw [← hx, ← hv, show (256 : Int) ^ 11 = 309485009821345068724781056 by decide]
    unfold V5
    omega
theorem of_13 (b : List Int) (hb : ∀ k : Nat, 0 ≤ rd b k ∧ rd b k < 256) : ∃ v0 v1 v2 v3 v4, ofN b 13 = [v0, v1, v2, v3, v4] ∧ (0 ≤ v0 ∧ v0 < 67108864) ∧ (0 ≤ v1 ∧ v1 < 67108864) ∧ (0 ≤ v2 ∧ v2 < 67108864) ∧ (0 ≤ v3 ∧ v3 < 67108864) ∧ (0 ≤ v4 ∧ v4 < 1) ∧ V5 v0 v1 v2 v3 v4 = NK b 13 := by
  obtain ⟨v0, v1, v2, v3, h, h0, h1, h2, h3, hv⟩ := of_12 b hb
  obtain ⟨x, hx⟩ : ∃ x, x = rd b ((12 : Nat) : Int) := ⟨_, rfl⟩
  have hxb := hb 12
  rw [← hx] at hxb
  have hof : ofV b 12 = x * 262144 := by
    unfold ofV
    rw [← hx, show (2 : Int) ^ (8 * 12 % 26) = 262144 by decide, wrap64u (n := x) (by omega) (by omega), wrap64u (by omega) (by omega)]
  refine ⟨v0, v1, v2, v3 + x * 262144 % 67108864, 0, ?_, by omega, by omega, by omega, by omega, by omega, ?_⟩
  · rw [ofN, h, hof]
    rw [if_neg (by omega)]
    show [v0, v1, v2, IntKind.u64.wrap (v3 + Go.bits .and .u64 (x * 262144) 67108863), 0] = _
    rw [mask26 _ (by omega) (by omega), wrap64u (by omega) (by omega)]
  · show _ = NK b 12 + rd b ((12 : Nat) : Int) * 256 ^ 12
    rw [← hx, ← hv, show (256 : Int) ^ 12 = 79228162514264337593543950336 by decide]
    unfold V5
    omega
theorem of_14 (b : List Int) (hb : ∀ k : Nat, 0 ≤ rd b k ∧ rd b k < 256) : ∃ v0 v1 v2 v3 v4, ofN b 14 = [v0, v1, v2, v3, v4] ∧ (0 ≤ v0 ∧ v0 < 67108864) ∧ (0 ≤ v1 ∧ v1 < 67108864) ∧ (0 ≤ v2 ∧ v2 < 67108864) ∧ (0 ≤ v3 ∧ v3 < 67108864) ∧ (0 ≤ v4 ∧ v4 < 256) ∧ V5 v0 v1 v2 v3 v4 = NK b 14 := by
  obtain ⟨v0, v1, v2, v3, v4, h, h0, h1, h2, h3, h4, hv⟩ := of_13 b hb
  obtain ⟨x, hx⟩ : ∃ x, x = rd b ((13 : Nat) : Int) := ⟨_, rfl⟩
  have hxb := hb 13
  rw [← hx] at hxb
  have hof : ofV b 13 = x * 1 := by
    unfold ofV
    rw [← hx, show (2 : Int) ^ (8 * 13 % 26) = 1 by decide, wrap64u (n := x) (by omega) (by omega), wrap64u (by omega) (by omega)]
  refine ⟨v0, v1, v2, v3, v4 + x * 1 % 67108864, ?_, by omega, by omega, by omega, by omega, by omega, ?_⟩
  · rw [ofN, h, hof]
    rw [if_neg (by omega)]
    show [v0, v1, v2, v3, IntKind.u64.wrap (v4 + Go.bits .and .u64 (x * 1) 67108863)] = _
    rw [mask26 _ (by omega) (by omega), wrap64u (by omega) (by omega)]
  · show _ = NK b 13 + rd b ((13 : Nat) : Int) * 256 ^ 13
    rw [← hx, ← hv, show (256 : Int) ^ 13 = 20282409603651670423947251286016 by decide]
    unfold V5
    omega
theorem of_15 (b : List Int) (hb : ∀ k : Nat, 0 ≤ rd b k ∧ rd b k < 256) : ∃ v0 v1 v2 v3 v4, ofN b 15 = [v0, v1, v2, v3, v4] ∧ (0 ≤ v0 ∧ v0 < 67108864) ∧ (0 ≤ v1 ∧ v1 < 67108864) ∧ (0 ≤ v2 ∧ v2 < 67108864) ∧ (0 ≤ v3 ∧ v3 < 67108864) ∧ (0 ≤ v4 ∧ v4 < 65536) ∧ V5 v0 v1 v2 v3 v4 = NK b 15 := by
  obtain ⟨v0, v1, v2, v3, v4, h, h0, h1, h2, h3, h4, hv⟩ := of_14 b hb
  obtain ⟨x, hx⟩ : ∃ x, x = rd b ((14 : Nat) : Int) := ⟨_, rfl⟩
  have hxb := hb 14
  rw [← hx] at hxb
  have hof : ofV b 14 = x * 256 := by
    unfold ofV
    rw [← hx, show (2 : Int) ^ (8 * 14 % 26) = 256 by decide, wrap64u (n := x) (by omega) (by omega), wrap64u (by omega) (by omega)]
  refine ⟨v0, v1, v2, v3, v4 + x * 256 % 67108864, ?_, by omega, by omega, by omega, by omega, by omega, ?_⟩
  · rw [ofN, h, hof]
    rw [if_neg (by omega)]
    show [v0, v1, v2, v3, IntKind.u64.wrap (v4 + Go.bits .and .u64 (x * 256) 67108863)] = _
    rw [mask26 _ (by omega) (by omega), wrap64u (by omega) (by omega)]
  · show _ = NK b 14 + rd b ((14 : Nat) : Int) * 256 ^ 14
    rw [← hx, ← hv, show (256 : Int) ^ 14 = 5192296858534827628530496329220096 by decide]
    unfold V5
    omega
theorem of_16 (b : List Int) (hb : ∀ k : Nat, 0 ≤ rd b k ∧ rd b k < 256) : ∃ v0 v1 v2 v3 v4, ofN b 16 = [v0, v1, v2, v3, v4] ∧ (0 ≤ v0 ∧ v0 < 67108864) ∧ (0 ≤ v1 ∧ v1 < 67108864) ∧ (0 ≤ v2 ∧ v2 < 67108864) ∧ (0 ≤ v3 ∧ v3 < 67108864) ∧ (0 ≤ v4 ∧ v4 < 16777216) ∧ V5 v0 v1 v2 v3 v4 = NK b 16 := by
  obtain ⟨v0, v1, v2, v3, v4, h, h0, h1, h2, h3, h4, hv⟩ := of_15 b hb
  obtain ⟨x, hx⟩ : ∃ x, x = rd b ((15 : Nat) : Int) := ⟨_, rfl⟩
  have hxb := hb 15
  rw [← hx] at hxb
  have hof : ofV b 15 = x * 65536 := by
    unfold ofV
    rw [← hx, show (2 : Int) ^ (8 * 15 % 26) = 65536 by decide, wrap64u (n := x) (by omega) (by omega), wrap64u (by omega) (by omega)]
  refine ⟨v0, v1, v2, v3, v4 + x * 65536 % 67108864, ?_, by omega, by omega, by omega, by omega, by omega, ?_⟩
  · rw [ofN, h, hof]
    rw [if_neg (by omega)]
    show [v0, v1, v2, v3, IntKind.u64.wrap (v4 + Go.bits .and .u64 (x * 65536) 67108863)] = _
    rw [mask26 _ (by omega) (by omega), wrap64u (by omega) (by omega)]
  · show _ = NK b 15 + rd b ((15 : Nat) : Int) * 256 ^ 15
    rw [← hx, ← hv, show (256 : Int) ^ 15 = 1329227995784915872903807060280344576 by decide]
    unfold V5
    omega
theorem of_17 (b : List Int) (hb : ∀ k : Nat, 0 ≤ rd b k ∧ rd b k < 256) (hx3 : rd b ((16 : Nat) : Int) ≤ 3) : ∃ v0 v1 v2 v3 v4, ofN b 17 = [v0, v1, v2, v3, v4] ∧ (0 ≤ v0 ∧ v0 < 67108864) ∧ (0 ≤ v1 ∧ v1 < 67108864) ∧ (0 ≤ v2 ∧ v2 < 67108864) ∧ (0 ≤ v3 ∧ v3 < 67108864) ∧ (0 ≤ v4 ∧ v4 < 67108864) ∧ V5 v0 v1 v2 v3 v4 = NK b 17 := by
  obtain ⟨v0, v1, v2, v3, v4, h, h0, h1, h2, h3, h4, hv⟩ := of_16 b hb
  obtain ⟨x, hx⟩ : ∃ x, x = rd b ((16 : Nat) : Int) := ⟨_, rfl⟩
  have hxb := hb 16
  rw [← hx] at hxb hx3
  have hof : ofV b 16 = x * 16777216 := by
    unfold ofV
    rw [← hx, show (2 : Int) ^ (8 * 16 % 26) = 16777216 by decide, wrap64u (n := x) (by omega) (by omega), wrap64u (by omega) (by omega)]
  refine ⟨v0, v1, v2, v3, v4 + x * 16777216 % 67108864, ?_, by omega, by omega, by omega, by omega, by omega, ?_⟩
  · rw [ofN, h, hof]
    rw [if_neg (by omega)]
    show [v0, v1, v2, v3, IntKind.u64.wrap (v4 + Go.bits .and .u64 (x * 16777216) 67108863)] = _
    rw [mask26 _ (by omega) (by omega), wrap64u (by omega) (by omega)]
  · show _ = NK b 16 + rd b ((16 : Nat) : Int) * 256 ^ 16
    rw [← hx, ← hv, show (256 : Int) ^ 16 = 340282366920938463463374607431768211456 by decide]
    unfold V5
    omega
/-- Bytes come to limbs. -/
theorem ofN_eq (b : List Int) (hb : ∀ k : Nat, 0 ≤ rd b k ∧ rd b k < 256) (n : Nat) (hn : n ≤ 16 ∨ n = 17 ∧ rd b ((16 : Nat) : Int) ≤ 3) :
    ∃ v0 v1 v2 v3 v4, ofN b n = [v0, v1, v2, v3, v4] ∧ (0 ≤ v0 ∧ v0 < 67108864) ∧ (0 ≤ v1 ∧ v1 < 67108864) ∧ (0 ≤ v2 ∧ v2 < 67108864) ∧ (0 ≤ v3 ∧ v3 < 67108864) ∧ (0 ≤ v4 ∧ v4 < 67108864) ∧ V5 v0 v1 v2 v3 v4 = NK b n := by
  rcases hn with hn | ⟨rfl, hx⟩
  · have : n = 0 ∨ n = 1 ∨ n = 2 ∨ n = 3 ∨ n = 4 ∨ n = 5 ∨ n = 6 ∨ n = 7 ∨ n = 8 ∨ n = 9 ∨ n = 10 ∨ n = 11 ∨ n = 12 ∨ n = 13 ∨ n = 14 ∨ n = 15 ∨ n = 16 := by omega
    rcases this with rfl | rfl | rfl | rfl | rfl | rfl | rfl | rfl | rfl | rfl | rfl | rfl | rfl | rfl | rfl | rfl | rfl
    · obtain ⟨v0, h, h0, hv⟩ := of_0 b hb
      exact ⟨v0, 0, 0, 0, 0, h, by omega, by omega, by omega, by omega, by omega, hv⟩
    · obtain ⟨v0, h, h0, hv⟩ := of_1 b hb
      exact ⟨v0, 0, 0, 0, 0, h, by omega, by omega, by omega, by omega, by omega, hv⟩
    · obtain ⟨v0, h, h0, hv⟩ := of_2 b hb
      exact ⟨v0, 0, 0, 0, 0, h, by omega, by omega, by omega, by omega, by omega, hv⟩
    · obtain ⟨v0, h, h0, hv⟩ := of_3 b hb
      exact ⟨v0, 0, 0, 0, 0, h, by omega, by omega, by omega, by omega, by omega, hv⟩
    · obtain ⟨v0, v1, h, h0, h1, hv⟩ := of_4 b hb
      exact ⟨v0, v1, 0, 0, 0, h, by omega, by omega, by omega, by omega, by omega, hv⟩
    · obtain ⟨v0, v1, h, h0, h1, hv⟩ := of_5 b hb
      exact ⟨v0, v1, 0, 0, 0, h, by omega, by omega, by omega, by omega, by omega, hv⟩
    · obtain ⟨v0, v1, h, h0, h1, hv⟩ := of_6 b hb
      exact ⟨v0, v1, 0, 0, 0, h, by omega, by omega, by omega, by omega, by omega, hv⟩
    · obtain ⟨v0, v1, v2, h, h0, h1, h2, hv⟩ := of_7 b hb
      exact ⟨v0, v1, v2, 0, 0, h, by omega, by omega, by omega, by omega, by omega, hv⟩
    · obtain ⟨v0, v1, v2, h, h0, h1, h2, hv⟩ := of_8 b hb
      exact ⟨v0, v1, v2, 0, 0, h, by omega, by omega, by omega, by omega, by omega, hv⟩
    · obtain ⟨v0, v1, v2, h, h0, h1, h2, hv⟩ := of_9 b hb
      exact ⟨v0, v1, v2, 0, 0, h, by omega, by omega, by omega, by omega, by omega, hv⟩
    · obtain ⟨v0, v1, v2, v3, h, h0, h1, h2, h3, hv⟩ := of_10 b hb
      exact ⟨v0, v1, v2, v3, 0, h, by omega, by omega, by omega, by omega, by omega, hv⟩
    · obtain ⟨v0, v1, v2, v3, h, h0, h1, h2, h3, hv⟩ := of_11 b hb
      exact ⟨v0, v1, v2, v3, 0, h, by omega, by omega, by omega, by omega, by omega, hv⟩
    · obtain ⟨v0, v1, v2, v3, h, h0, h1, h2, h3, hv⟩ := of_12 b hb
      exact ⟨v0, v1, v2, v3, 0, h, by omega, by omega, by omega, by omega, by omega, hv⟩
    · obtain ⟨v0, v1, v2, v3, v4, h, h0, h1, h2, h3, h4, hv⟩ := of_13 b hb
      exact ⟨v0, v1, v2, v3, v4, h, by omega, by omega, by omega, by omega, by omega, hv⟩
    · obtain ⟨v0, v1, v2, v3, v4, h, h0, h1, h2, h3, h4, hv⟩ := of_14 b hb
      exact ⟨v0, v1, v2, v3, v4, h, by omega, by omega, by omega, by omega, by omega, hv⟩
    · obtain ⟨v0, v1, v2, v3, v4, h, h0, h1, h2, h3, h4, hv⟩ := of_15 b hb
      exact ⟨v0, v1, v2, v3, v4, h, by omega, by omega, by omega, by omega, by omega, hv⟩
    · obtain ⟨v0, v1, v2, v3, v4, h, h0, h1, h2, h3, h4, hv⟩ := of_16 b hb
      exact ⟨v0, v1, v2, v3, v4, h, by omega, by omega, by omega, by omega, by omega, hv⟩
  · obtain ⟨v0, v1, v2, v3, v4, h, h0, h1, h2, h3, h4, hv⟩ := of_17 b hb hx
    exact ⟨v0, v1, v2, v3, v4, h, by omega, by omega, by omega, by omega, by omega, hv⟩
theorem or_comm64 (x y : Int) : Go.bits .or .u64 x y = Go.bits .or .u64 y x := by simp only [Go.bits, BitVec.or_comm]
theorem upN_eq (a b c d e : Int) (ha : 0 ≤ a ∧ a < 536870912) (hb : 0 ≤ b ∧ b < 536870912) (hc : 0 ≤ c ∧ c < 536870912) (hd : 0 ≤ d ∧ d < 536870912) (he : 0 ≤ e ∧ e < 536870912) :
    ∃ a' b' c' d' e', upN [a, b, c, d, e] 4 = [a', b', c', d', e'] ∧ (0 ≤ a' ∧ a' < 67108864) ∧ (0 ≤ b' ∧ b' < 67108864) ∧ (0 ≤ c' ∧ c' < 67108864) ∧ (0 ≤ d' ∧ d' < 67108864) ∧ (0 ≤ e' ∧ e' < 1073741824) ∧ V5 a' b' c' d' e' = V5 a b c d e := by
  obtain ⟨s1, h1⟩ : ∃ s1, s1 = b + a / 67108864 := ⟨_, rfl⟩
  obtain ⟨s2, h2⟩ : ∃ s2, s2 = c + s1 / 67108864 := ⟨_, rfl⟩
  obtain ⟨s3, h3⟩ : ∃ s3, s3 = d + s2 / 67108864 := ⟨_, rfl⟩
  obtain ⟨s4, h4⟩ : ∃ s4, s4 = e + s3 / 67108864 := ⟨_, rfl⟩
  have w1 : IntKind.u64.wrap (b + a / 67108864) = s1 := by rw [h1]; exact wrap64u (by omega) (by omega)
  have w2 : IntKind.u64.wrap (c + s1 / 67108864) = s2 := by rw [h2]; exact wrap64u (by omega) (by omega)
  have w3 : IntKind.u64.wrap (d + s2 / 67108864) = s3 := by rw [h3]; exact wrap64u (by omega) (by omega)
  have w4 : IntKind.u64.wrap (e + s3 / 67108864) = s4 := by rw [h4]; exact wrap64u (by omega) (by omega)
  have e1 : upN [a, b, c, d, e] 1 = [a % 67108864, s1, c, d, e] := by
    show [Go.bits .and .u64 a 67108863, IntKind.u64.wrap (b + a / 67108864), c, d, e] = _
    rw [w1, mask26 a ha.1 (by omega)]
  have e2 : upN [a, b, c, d, e] 2 = [a % 67108864, s1 % 67108864, s2, d, e] := by
    rw [upN, e1]
    show [a % 67108864, Go.bits .and .u64 s1 67108863, IntKind.u64.wrap (c + s1 / 67108864), d, e] = _
    rw [w2, mask26 s1 (by omega) (by omega)]
  have e3 : upN [a, b, c, d, e] 3 = [a % 67108864, s1 % 67108864, s2 % 67108864, s3, e] := by
    rw [upN, e2]
    show [a % 67108864, s1 % 67108864, Go.bits .and .u64 s2 67108863, IntKind.u64.wrap (d + s2 / 67108864), e] = _
    rw [w3, mask26 s2 (by omega) (by omega)]
  have e4 : upN [a, b, c, d, e] 4 = [a % 67108864, s1 % 67108864, s2 % 67108864, s3 % 67108864, s4] := by
    rw [upN, e3]
    show [a % 67108864, s1 % 67108864, s2 % 67108864, Go.bits .and .u64 s3 67108863, IntKind.u64.wrap (e + s3 / 67108864)] = _
    rw [w4, mask26 s3 (by omega) (by omega)]
  refine ⟨_, _, _, _, _, e4, by omega, by omega, by omega, by omega, by omega, ?_⟩
  unfold V5
  omega

theorem byt_0 (a b c d e : Int) (ha : 0 ≤ a ∧ a < 67108864) (hb : 0 ≤ b ∧ b < 67108864) (hc : 0 ≤ c ∧ c < 67108864) (hd : 0 ≤ d ∧ d < 67108864) (he : 0 ≤ e ∧ e < 1073741824) : bytV [a, b, c, d, e] 0 % 256 = V5 a b c d e / 256 ^ 0 % 256 := by
  have h1 : V5 a b c d e / 1 = (a + b * 67108864 + c * 4503599627370496 + d * 302231454903657293676544 + e * 20282409603651670423947251286016) / 1 := by unfold V5; omega
  obtain ⟨r, hr⟩ : ∃ r, r = c + d * 67108864 + e * 4503599627370496 := ⟨_, rfl⟩
  have h2 : (a + b * 67108864 + c * 4503599627370496 + d * 302231454903657293676544 + e * 20282409603651670423947251286016) / 1 = a / 1 + b * 67108864 + r * 4503599627370496 := by omega
  have h3 : bytV [a, b, c, d, e] 0 = a / 1 + b * 67108864 := by
    unfold bytV
    rw [if_pos (by decide), show (2 : Int) ^ (8 * 0 % 26) = 1 by decide, show (2 : Int) ^ (26 - 8 * 0 % 26) = 67108864 by decide]
    show Go.bits .or .u64 (a / 1) (IntKind.u64.wrap (b * 67108864)) = _
    rw [wrap64u (by omega) (by omega), or_comm64, bits_join .u64 64 (by decide) wraps_u64 26 _ _ (by omega) (by omega) (by omega) (by omega) (by omega) (by omega)]
    omega
  rw [h3, show (256 : Int) ^ 0 = 1 by decide, h1, h2]
  omega
theorem byt_1 (a b c d e : Int) (ha : 0 ≤ a ∧ a < 67108864) (hb : 0 ≤ b ∧ b < 67108864) (hc : 0 ≤ c ∧ c < 67108864) (hd : 0 ≤ d ∧ d < 67108864) (he : 0 ≤ e ∧ e < 1073741824) : bytV [a, b, c, d, e] 1 % 256 = V5 a b c d e / 256 ^ 1 % 256 := by
  have h1 : V5 a b c d e / 256 = (a + b * 67108864 + c * 4503599627370496 + d * 302231454903657293676544 + e * 20282409603651670423947251286016) / 256 := by unfold V5; omega
  obtain ⟨r, hr⟩ : ∃ r, r = c + d * 67108864 + e * 4503599627370496 := ⟨_, rfl⟩
  have h2 : (a + b * 67108864 + c * 4503599627370496 + d * 302231454903657293676544 + e * 20282409603651670423947251286016) / 256 = a / 256 + b * 262144 + r * 17592186044416 := by omega
  have h3 : bytV [a, b, c, d, e] 1 = a / 256 + b * 262144 := by
    unfold bytV
    rw [if_pos (by decide), show (2 : Int) ^ (8 * 1 % 26) = 256 by decide, show (2 : Int) ^ (26 - 8 * 1 % 26) = 262144 by decide]
    show Go.bits .or .u64 (a / 256) (IntKind.u64.wrap (b * 262144)) = _
    rw [wrap64u (by omega) (by omega), or_comm64, bits_join .u64 64 (by decide) wraps_u64 18 _ _ (by omega) (by omega) (by omega) (by omega) (by omega) (by omega)]
    omega
  rw [h3, show (256 : Int) ^ 1 = 256 by decide, h1, h2]
  omega
theorem byt_2 (a b c d e : Int) (ha : 0 ≤ a ∧ a < 67108864) (hb : 0 ≤ b ∧ b < 67108864) (hc : 0 ≤ c ∧ c < 67108864) (hd : 0 ≤ d ∧ d < 67108864) (he : 0 ≤ e ∧ e < 1073741824) : bytV [a, b, c, d, e] 2 % 256 = V5 a b c d e / 256 ^ 2 % 256 := by
  have h1 : V5 a b c d e / 65536 = (a + b * 67108864 + c * 4503599627370496 + d * 302231454903657293676544 + e * 20282409603651670423947251286016) / 65536 := by unfold V5; omega
  obtain ⟨r, hr⟩ : ∃ r, r = c + d * 67108864 + e * 4503599627370496 := ⟨_, rfl⟩
  have h2 : (a + b * 67108864 + c * 4503599627370496 + d * 302231454903657293676544 + e * 20282409603651670423947251286016) / 65536 = a / 65536 + b * 1024 + r * 68719476736 := by omega
  have h3 : bytV [a, b, c, d, e] 2 = a / 65536 + b * 1024 := by
    unfold bytV
    rw [if_pos (by decide), show (2 : Int) ^ (8 * 2 % 26) = 65536 by decide, show (2 : Int) ^ (26 - 8 * 2 % 26) = 1024 by decide]
    show Go.bits .or .u64 (a / 65536) (IntKind.u64.wrap (b * 1024)) = _
    rw [wrap64u (by omega) (by omega), or_comm64, bits_join .u64 64 (by decide) wraps_u64 10 _ _ (by omega) (by omega) (by omega) (by omega) (by omega) (by omega)]
    omega
  rw [h3, show (256 : Int) ^ 2 = 65536 by decide, h1, h2]
  omega
theorem byt_3 (a b c d e : Int) (ha : 0 ≤ a ∧ a < 67108864) (hb : 0 ≤ b ∧ b < 67108864) (hc : 0 ≤ c ∧ c < 67108864) (hd : 0 ≤ d ∧ d < 67108864) (he : 0 ≤ e ∧ e < 1073741824) : bytV [a, b, c, d, e] 3 % 256 = V5 a b c d e / 256 ^ 3 % 256 := by
  have h1 : V5 a b c d e / 16777216 = (a + b * 67108864 + c * 4503599627370496 + d * 302231454903657293676544 + e * 20282409603651670423947251286016) / 16777216 := by unfold V5; omega
  obtain ⟨r, hr⟩ : ∃ r, r = c + d * 67108864 + e * 4503599627370496 := ⟨_, rfl⟩
  have h2 : (a + b * 67108864 + c * 4503599627370496 + d * 302231454903657293676544 + e * 20282409603651670423947251286016) / 16777216 = a / 16777216 + b * 4 + r * 268435456 := by omega
  have h3 : bytV [a, b, c, d, e] 3 = a / 16777216 + b * 4 := by
    unfold bytV
    rw [if_pos (by decide), show (2 : Int) ^ (8 * 3 % 26) = 16777216 by decide, show (2 : Int) ^ (26 - 8 * 3 % 26) = 4 by decide]
    show Go.bits .or .u64 (a / 16777216) (IntKind.u64.wrap (b * 4)) = _
    rw [wrap64u (by omega) (by omega), or_comm64, bits_join .u64 64 (by decide) wraps_u64 2 _ _ (by omega) (by omega) (by omega) (by omega) (by omega) (by omega)]
    omega
  rw [h3, show (256 : Int) ^ 3 = 16777216 by decide, h1, h2]
  omega
theorem byt_4 (a b c d e : Int) (ha : 0 ≤ a ∧ a < 67108864) (hb : 0 ≤ b ∧ b < 67108864) (hc : 0 ≤ c ∧ c < 67108864) (hd : 0 ≤ d ∧ d < 67108864) (he : 0 ≤ e ∧ e < 1073741824) : bytV [a, b, c, d, e] 4 % 256 = V5 a b c d e / 256 ^ 4 % 256 := by
  have h1 : V5 a b c d e / 4294967296 = (b + c * 67108864 + d * 4503599627370496 + e * 302231454903657293676544) / 64 := by unfold V5; omega
  obtain ⟨r, hr⟩ : ∃ r, r = d + e * 67108864 := ⟨_, rfl⟩
  have h2 : (b + c * 67108864 + d * 4503599627370496 + e * 302231454903657293676544) / 64 = b / 64 + c * 1048576 + r * 70368744177664 := by omega
  have h3 : bytV [a, b, c, d, e] 4 = b / 64 + c * 1048576 := by
    unfold bytV
    rw [if_pos (by decide), show (2 : Int) ^ (8 * 4 % 26) = 64 by decide, show (2 : Int) ^ (26 - 8 * 4 % 26) = 1048576 by decide]
    show Go.bits .or .u64 (b / 64) (IntKind.u64.wrap (c * 1048576)) = _
    rw [wrap64u (by omega) (by omega), or_comm64, bits_join .u64 64 (by decide) wraps_u64 20 _ _ (by omega) (by omega) (by omega) (by omega) (by omega) (by omega)]
    omega
  rw [h3, show (256 : Int) ^ 4 = 4294967296 by decide, h1, h2]
  omega
theorem byt_5 (a b c d e : Int) (ha : 0 ≤ a ∧ a < 67108864) (hb : 0 ≤ b ∧ b < 67108864) (hc : 0 ≤ c ∧ c < 67108864) (hd : 0 ≤ d ∧ d < 67108864) (he : 0 ≤ e ∧ e < 1073741824) : bytV [a, b, c, d, e] 5 % 256 = V5 a b c d e / 256 ^ 5 % 256 := by
  have h1 : V5 a b c d e / 1099511627776 = (b + c * 67108864 + d * 4503599627370496 + e * 302231454903657293676544) / 16384 := by unfold V5; omega
  obtain ⟨r, hr⟩ : ∃ r, r = d + e * 67108864 := ⟨_, rfl⟩
  have h2 : (b + c * 67108864 + d * 4503599627370496 + e * 302231454903657293676544) / 16384 = b / 16384 + c * 4096 + r * 274877906944 := by omega
  have h3 : bytV [a, b, c, d, e] 5 = b / 16384 + c * 4096 := by
    unfold bytV
    rw [if_pos (by decide), show (2 : Int) ^ (8 * 5 % 26) = 16384 by decide, show (2 : Int) ^ (26 - 8 * 5 % 26) = 4096 by decide]
    show Go.bits .or .u64 (b / 16384) (IntKind.u64.wrap (c * 4096)) = _
    rw [wrap64u (by omega) (by omega), or_comm64, bits_join .u64 64 (by decide) wraps_u64 12 _ _ (by omega) (by omega) (by omega) (by omega) (by omega) (by omega)]
    omega
  rw [h3, show (256 : Int) ^ 5 = 1099511627776 by decide, h1, h2]
  omega
theorem byt_6 (a b c d e : Int) (ha : 0 ≤ a ∧ a < 67108864) (hb : 0 ≤ b ∧ b < 67108864) (hc : 0 ≤ c ∧ c < 67108864) (hd : 0 ≤ d ∧ d < 67108864) (he : 0 ≤ e ∧ e < 1073741824) : bytV [a, b, c, d, e] 6 % 256 = V5 a b c d e / 256 ^ 6 % 256 := by
  have h1 : V5 a b c d e / 281474976710656 = (b + c * 67108864 + d * 4503599627370496 + e * 302231454903657293676544) / 4194304 := by unfold V5; omega
  obtain ⟨r, hr⟩ : ∃ r, r = d + e * 67108864 := ⟨_, rfl⟩
  have h2 : (b + c * 67108864 + d * 4503599627370496 + e * 302231454903657293676544) / 4194304 = b / 4194304 + c * 16 + r * 1073741824 := by omega
  have h3 : bytV [a, b, c, d, e] 6 = b / 4194304 + c * 16 := by
    unfold bytV
    rw [if_pos (by decide), show (2 : Int) ^ (8 * 6 % 26) = 4194304 by decide, show (2 : Int) ^ (26 - 8 * 6 % 26) = 16 by decide]
    show Go.bits .or .u64 (b / 4194304) (IntKind.u64.wrap (c * 16)) = _
    rw [wrap64u (by omega) (by omega), or_comm64, bits_join .u64 64 (by decide) wraps_u64 4 _ _ (by omega) (by omega) (by omega) (by omega) (by omega) (by omega)]
    omega
  rw [h3, show (256 : Int) ^ 6 = 281474976710656 by decide, h1, h2]
  omega
theorem byt_7 (a b c d e : Int) (ha : 0 ≤ a ∧ a < 67108864) (hb : 0 ≤ b ∧ b < 67108864) (hc : 0 ≤ c ∧ c < 67108864) (hd : 0 ≤ d ∧ d < 67108864) (he : 0 ≤ e ∧ e < 1073741824) : bytV [a, b, c, d, e] 7 % 256 = V5 a b c d e / 256 ^ 7 % 256 := by
  have h1 : V5 a b c d e / 72057594037927936 = (c + d * 67108864 + e * 4503599627370496) / 16 := by unfold V5; omega
  obtain ⟨r, hr⟩ : ∃ r, r = e := ⟨_, rfl⟩
  have h2 : (c + d * 67108864 + e * 4503599627370496) / 16 = c / 16 + d * 4194304 + r * 281474976710656 := by omega
  have h3 : bytV [a, b, c, d, e] 7 = c / 16 + d * 4194304 := by
    unfold bytV
    rw [if_pos (by decide), show (2 : Int) ^ (8 * 7 % 26) = 16 by decide, show (2 : Int) ^ (26 - 8 * 7 % 26) = 4194304 by decide]
    show Go.bits .or .u64 (c / 16) (IntKind.u64.wrap (d * 4194304)) = _
    rw [wrap64u (by omega) (by omega), or_comm64, bits_join .u64 64 (by decide) wraps_u64 22 _ _ (by omega) (by omega) (by omega) (by omega) (by omega) (by omega)]
    omega
  rw [h3, show (256 : Int) ^ 7 = 72057594037927936 by decide, h1, h2]
  omega
theorem byt_8 (a b c d e : Int) (ha : 0 ≤ a ∧ a < 67108864) (hb : 0 ≤ b ∧ b < 67108864) (hc : 0 ≤ c ∧ c < 67108864) (hd : 0 ≤ d ∧ d < 67108864) (he : 0 ≤ e ∧ e < 1073741824) : bytV [a, b, c, d, e] 8 % 256 = V5 a b c d e / 256 ^ 8 % 256 := by
  have h1 : V5 a b c d e / 18446744073709551616 = (c + d * 67108864 + e * 4503599627370496) / 4096 := by unfold V5; omega
  obtain ⟨r, hr⟩ : ∃ r, r = e := ⟨_, rfl⟩
  have h2 : (c + d * 67108864 + e * 4503599627370496) / 4096 = c / 4096 + d * 16384 + r * 1099511627776 := by omega
  have h3 : bytV [a, b, c, d, e] 8 = c / 4096 + d * 16384 := by
    unfold bytV
    rw [if_pos (by decide), show (2 : Int) ^ (8 * 8 % 26) = 4096 by decide, show (2 : Int) ^ (26 - 8 * 8 % 26) = 16384 by decide]
    show Go.bits .or .u64 (c / 4096) (IntKind.u64.wrap (d * 16384)) = _
    rw [wrap64u (by omega) (by omega), or_comm64, bits_join .u64 64 (by decide) wraps_u64 14 _ _ (by omega) (by omega) (by omega) (by omega) (by omega) (by omega)]
    omega
  rw [h3, show (256 : Int) ^ 8 = 18446744073709551616 by decide, h1, h2]
  omega
theorem byt_9 (a b c d e : Int) (ha : 0 ≤ a ∧ a < 67108864) (hb : 0 ≤ b ∧ b < 67108864) (hc : 0 ≤ c ∧ c < 67108864) (hd : 0 ≤ d ∧ d < 67108864) (he : 0 ≤ e ∧ e < 1073741824) : bytV [a, b, c, d, e] 9 % 256 = V5 a b c d e / 256 ^ 9 % 256 := by
  have h1 : V5 a b c d e / 4722366482869645213696 = (c + d * 67108864 + e * 4503599627370496) / 1048576 := by unfold V5; omega
  obtain ⟨r, hr⟩ : ∃ r, r = e := ⟨_, rfl⟩
  have h2 : (c + d * 67108864 + e * 4503599627370496) / 1048576 = c / 1048576 + d * 64 + r * 4294967296 := by omega
  have h3 : bytV [a, b, c, d, e] 9 = c / 1048576 + d * 64 := by
    unfold bytV
    rw [if_pos (by decide), show (2 : Int) ^ (8 * 9 % 26) = 1048576 by decide, show (2 : Int) ^ (26 - 8 * 9 % 26) = 64 by decide]
    show Go.bits .or .u64 (c / 1048576) (IntKind.u64.wrap (d * 64)) = _
    rw [wrap64u (by omega) (by omega), or_comm64, bits_join .u64 64 (by decide) wraps_u64 6 _ _ (by omega) (by omega) (by omega) (by omega) (by omega) (by omega)]
    omega
  rw [h3, show (256 : Int) ^ 9 = 4722366482869645213696 by decide, h1, h2]
  omega
theorem byt_10 (a b c d e : Int) (ha : 0 ≤ a ∧ a < 67108864) (hb : 0 ≤ b ∧ b < 67108864) (hc : 0 ≤ c ∧ c < 67108864) (hd : 0 ≤ d ∧ d < 67108864) (he : 0 ≤ e ∧ e < 1073741824) : bytV [a, b, c, d, e] 10 % 256 = V5 a b c d e / 256 ^ 10 % 256 := by
  have h1 : V5 a b c d e / 1208925819614629174706176 = (d + e * 67108864) / 4 := by unfold V5; omega
  obtain ⟨r, hr⟩ : ∃ r, r = 0 := ⟨_, rfl⟩
  have h2 : (d + e * 67108864) / 4 = d / 4 + e * 16777216 + r * 1125899906842624 := by omega
  have h3 : bytV [a, b, c, d, e] 10 = d / 4 + e * 16777216 := by
    unfold bytV
    rw [if_pos (by decide), show (2 : Int) ^ (8 * 10 % 26) = 4 by decide, show (2 : Int) ^ (26 - 8 * 10 % 26) = 16777216 by decide]
    show Go.bits .or .u64 (d / 4) (IntKind.u64.wrap (e * 16777216)) = _
    rw [wrap64u (by omega) (by omega), or_comm64, bits_join .u64 64 (by decide) wraps_u64 24 _ _ (by omega) (by omega) (by omega) (by omega) (by omega) (by omega)]
    omega
  rw [h3, show (256 : Int) ^ 10 = 1208925819614629174706176 by decide, h1, h2]
  omega
theorem byt_11 (a b c d e : Int) (ha : 0 ≤ a ∧ a < 67108864) (hb : 0 ≤ b ∧ b < 67108864) (hc : 0 ≤ c ∧ c < 67108864) (hd : 0 ≤ d ∧ d < 67108864) (he : 0 ≤ e ∧ e < 1073741824) : bytV [a, b, c, d, e] 11 % 256 = V5 a b c d e / 256 ^ 11 % 256 := by
  have h1 : V5 a b c d e / 309485009821345068724781056 = (d + e * 67108864) / 1024 := by unfold V5; omega
  obtain ⟨r, hr⟩ : ∃ r, r = 0 := ⟨_, rfl⟩
  have h2 : (d + e * 67108864) / 1024 = d / 1024 + e * 65536 + r * 4398046511104 := by omega
  have h3 : bytV [a, b, c, d, e] 11 = d / 1024 + e * 65536 := by
    unfold bytV
    rw [if_pos (by decide), show (2 : Int) ^ (8 * 11 % 26) = 1024 by decide, show (2 : Int) ^ (26 - 8 * 11 % 26) = 65536 by decide]
    show Go.bits .or .u64 (d / 1024) (IntKind.u64.wrap (e * 65536)) = _
    rw [wrap64u (by omega) (by omega), or_comm64, bits_join .u64 64 (by decide) wraps_u64 16 _ _ (by omega) (by omega) (by omega) (by omega) (by omega) (by omega)]
    omega
  rw [h3, show (256 : Int) ^ 11 = 309485009821345068724781056 by decide, h1, h2]
  omega
theorem byt_12 (a b c d e : Int) (ha : 0 ≤ a ∧ a < 67108864) (hb : 0 ≤ b ∧ b < 67108864) (hc : 0 ≤ c ∧ c < 67108864) (hd : 0 ≤ d ∧ d < 67108864) (he : 0 ≤ e ∧ e < 1073741824) : bytV [a, b, c, d, e] 12 % 256 = V5 a b c d e / 256 ^ 12 % 256 := by
  have h1 : V5 a b c d e / 79228162514264337593543950336 = (d + e * 67108864) / 262144 := by unfold V5; omega
  obtain ⟨r, hr⟩ : ∃ r, r = 0 := ⟨_, rfl⟩
  have h2 : (d + e * 67108864) / 262144 = d / 262144 + e * 256 + r * 17179869184 := by omega
  have h3 : bytV [a, b, c, d, e] 12 = d / 262144 + e * 256 := by
    unfold bytV
    rw [if_pos (by decide), show (2 : Int) ^ (8 * 12 % 26) = 262144 by decide, show (2 : Int) ^ (26 - 8 * 12 % 26) = 256 by decide]
    show Go.bits .or .u64 (d / 262144) (IntKind.u64.wrap (e * 256)) = _
    rw [wrap64u (by omega) (by omega), or_comm64, bits_join .u64 64 (by decide) wraps_u64 8 _ _ (by omega) (by omega) (by omega) (by omega) (by omega) (by omega)]
    omega
  rw [h3, show (256 : Int) ^ 12 = 79228162514264337593543950336 by decide, h1, h2]
  omega
theorem byt_13 (a b c d e : Int) (ha : 0 ≤ a ∧ a < 67108864) (hb : 0 ≤ b ∧ b < 67108864) (hc : 0 ≤ c ∧ c < 67108864) (hd : 0 ≤ d ∧ d < 67108864) (he : 0 ≤ e ∧ e < 1073741824) : bytV [a, b, c, d, e] 13 % 256 = V5 a b c d e / 256 ^ 13 % 256 := by
  have h1 : V5 a b c d e / 20282409603651670423947251286016 = (e) / 1 := by unfold V5; omega
  have h3 : bytV [a, b, c, d, e] 13 = e / 1 := by
    unfold bytV
    rw [if_neg (by decide), show (2 : Int) ^ (8 * 13 % 26) = 1 by decide]
    rfl
  rw [h3, show (256 : Int) ^ 13 = 20282409603651670423947251286016 by decide, h1]
theorem byt_14 (a b c d e : Int) (ha : 0 ≤ a ∧ a < 67108864) (hb : 0 ≤ b ∧ b < 67108864) (hc : 0 ≤ c ∧ c < 67108864) (hd : 0 ≤ d ∧ d < 67108864) (he : 0 ≤ e ∧ e < 1073741824) : bytV [a, b, c, d, e] 14 % 256 = V5 a b c d e / 256 ^ 14 % 256 := by
  have h1 : V5 a b c d e / 5192296858534827628530496329220096 = (e) / 256 := by unfold V5; omega
  have h3 : bytV [a, b, c, d, e] 14 = e / 256 := by
    unfold bytV
    rw [if_neg (by decide), show (2 : Int) ^ (8 * 14 % 26) = 256 by decide]
    rfl
  rw [h3, show (256 : Int) ^ 14 = 5192296858534827628530496329220096 by decide, h1]
theorem byt_15 (a b c d e : Int) (ha : 0 ≤ a ∧ a < 67108864) (hb : 0 ≤ b ∧ b < 67108864) (hc : 0 ≤ c ∧ c < 67108864) (hd : 0 ≤ d ∧ d < 67108864) (he : 0 ≤ e ∧ e < 1073741824) : bytV [a, b, c, d, e] 15 % 256 = V5 a b c d e / 256 ^ 15 % 256 := by
  have h1 : V5 a b c d e / 1329227995784915872903807060280344576 = (e) / 65536 := by unfold V5; omega
  have h3 : bytV [a, b, c, d, e] 15 = e / 65536 := by
    unfold bytV
    rw [if_neg (by decide), show (2 : Int) ^ (8 * 15 % 26) = 65536 by decide]
    rfl
  rw [h3, show (256 : Int) ^ 15 = 1329227995784915872903807060280344576 by decide, h1]
theorem byt_eq (a b c d e : Int) (ha : 0 ≤ a ∧ a < 67108864) (hb : 0 ≤ b ∧ b < 67108864) (hc : 0 ≤ c ∧ c < 67108864) (hd : 0 ≤ d ∧ d < 67108864) (he : 0 ≤ e ∧ e < 1073741824) (k : Nat) (hk : k < 16) : bytV [a, b, c, d, e] k % 256 = V5 a b c d e / 256 ^ k % 256 := by
  have : k = 0 ∨ k = 1 ∨ k = 2 ∨ k = 3 ∨ k = 4 ∨ k = 5 ∨ k = 6 ∨ k = 7 ∨ k = 8 ∨ k = 9 ∨ k = 10 ∨ k = 11 ∨ k = 12 ∨ k = 13 ∨ k = 14 ∨ k = 15 := by omega
  rcases this with rfl | rfl | rfl | rfl | rfl | rfl | rfl | rfl | rfl | rfl | rfl | rfl | rfl | rfl | rfl | rfl
  · exact byt_0 a b c d e ha hb hc hd he
  · exact byt_1 a b c d e ha hb hc hd he
  · exact byt_2 a b c d e ha hb hc hd he
  · exact byt_3 a b c d e ha hb hc hd he
  · exact byt_4 a b c d e ha hb hc hd he
  · exact byt_5 a b c d e ha hb hc hd he
  · exact byt_6 a b c d e ha hb hc hd he
  · exact byt_7 a b c d e ha hb hc hd he
  · exact byt_8 a b c d e ha hb hc hd he
  · exact byt_9 a b c d e ha hb hc hd he
  · exact byt_10 a b c d e ha hb hc hd he
  · exact byt_11 a b c d e ha hb hc hd he
  · exact byt_12 a b c d e ha hb hc hd he
  · exact byt_13 a b c d e ha hb hc hd he
  · exact byt_14 a b c d e ha hb hc hd he
  · exact byt_15 a b c d e ha hb hc hd he
end Go.Proofs.Ytllaobhheokafaa.F
