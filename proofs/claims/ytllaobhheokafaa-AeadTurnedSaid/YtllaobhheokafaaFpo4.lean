/- Plain facts on what Poly1305 comes to: digits. No program in sight; each fact under the conditions that it states. -/
import Derived.Test.YtllaobhheokafaaFpo3
namespace Go.Proofs.Ytllaobhheokafaa.F
open Go.RowKit Go.Proofs.Ytllaobhheokafaa.Q Go.Proofs.YtllaobhheokafaaW.PrintWords Go.Proofs.YtllaobhheokafaaW.PrintLast Go.Proofs.YtllaobhheokafaaW.PrintMore
set_option linter.unusedVariables false
theorem NK_congr (a b : List Int) : ∀ n : Nat, (∀ k : Nat, k < n → rd a k = rd b k) → NK a n = NK b n
  | 0, _ => rfl
  | n + 1, h => by rw [NK, NK, NK_congr a b n (fun k hk => h k (by omega)), h n (by omega)]
theorem NK_far (a : List Int) : ∀ n : Nat, a.length ≤ n → NK a n = NK a a.length := by
  intro n hn
  obtain ⟨d, rfl⟩ : ∃ d, n = a.length + d := ⟨n - a.length, by omega⟩
  clear hn
  induction d with
  | zero => rfl
  | succ d ih =>
    show NK a (a.length + d) + rd a ((a.length + d : Nat) : Int) * 256 ^ (a.length + d) = _
    rw [ih, rd_far _ _ (by omega), Int.zero_mul, Int.add_zero]
theorem NK_digit (b : List Int) (hb : ∀ k : Nat, 0 ≤ rd b k ∧ rd b k < 256) : ∀ m k : Nat, k < m → NK b m / 256 ^ k % 256 = rd b k := by
  intro m k hk
  have hp : (0 : Int) < 256 ^ k := Int.pow_pos (by decide)
  obtain ⟨d, rfl⟩ : ∃ d, m = k + 1 + d := ⟨m - (k + 1), by omega⟩
  have key : ∃ t, NK b (k + 1 + d) = NK b k + 256 ^ k * (rd b k + 256 * t) := by
    clear hk
    induction d with
    | zero => exact ⟨0, by rw [Nat.add_zero, NK]; simp [Int.mul_comm]⟩
    | succ d ih =>
      obtain ⟨t, ht⟩ := ih
      refine ⟨t + rd b ((k + 1 + d : Nat) : Int) * 256 ^ d, ?_⟩
      show NK b (k + 1 + d) + rd b ((k + 1 + d : Nat) : Int) * 256 ^ (k + 1 + d) = _
      rw [ht, show (256 : Int) ^ (k + 1 + d) = 256 ^ k * 256 * 256 ^ d by rw [Int.pow_add, Int.pow_succ]]
      grind
  obtain ⟨t, ht⟩ := key
  rw [ht, Int.add_mul_ediv_left _ _ (by omega), Int.ediv_eq_zero_of_lt (NK_bd b hb k).1 (NK_bd b hb k).2, Int.zero_add, Int.add_mul_emod_self_left]
  have := hb k
  omega
theorem dig_NK {b : List Int} (hb : Bytes b) (hl : b.length = 16) {m : Nat} {c : List Int} (hc : ∀ k : Nat, 0 ≤ rd c k ∧ rd c k < 256) (hm : 16 ≤ m) (h : ∀ k : Nat, k < 16 → rd c k = rd b k) : dig (NK c m) = b := by
  refine rd_ext 16 (dig_length _) hl fun k hk => ?_
  rw [rd_dig _ k hk, NK_digit c hc m k (by omega), h k hk]
theorem dig_self {b : List Int} (hb : Bytes b) (hl : b.length = 16) : dig (NK b 16) = b := dig_NK hb hl (rd_byte hb) (by omega) (fun _ _ => rfl)
theorem dig_mod (N t : Int) : dig (N + 340282366920938463463374607431768211456 * t) = dig N := by
  refine rd_ext 16 (dig_length _) (dig_length _) fun k hk => ?_
  have hp : (0 : Int) < 256 ^ k := Int.pow_pos (by decide)
  rw [rd_dig _ k hk, rd_dig _ k hk]
  have h2 : (340282366920938463463374607431768211456 : Int) = 256 ^ k * (256 * 256 ^ (15 - k)) := by
    have : (256 : Int) ^ 16 = 256 ^ (k + (1 + (15 - k))) := by rw [show k + (1 + (15 - k)) = 16 by omega]
    rw [Int.pow_add, Int.pow_add] at this
    rw [show (340282366920938463463374607431768211456 : Int) = 256 ^ 16 by decide, this]
    simp
  rw [h2, Int.mul_assoc, Int.add_mul_ediv_left _ _ (by omega), Int.mul_assoc, Int.add_mul_emod_self_left]
theorem NK_dig (A : Int) (hA : 0 ≤ A) : ∀ n : Nat, n ≤ 16 → NK (dig A) n = A % 256 ^ n
  | 0, _ => by simp [NK]
  | n + 1, h => by
    rw [NK, NK_dig A hA n (by omega), rd_dig A n (by omega)]
    obtain ⟨a, rfl⟩ := Int.eq_ofNat_of_zero_le hA
    have h2 := Nat.mod_mul (a := 256 ^ n) (b := 256) (x := a)
    rw [← Nat.pow_succ] at h2
    have h3 : ((a % 256 ^ (n + 1) : Nat) : Int) = ((a % 256 ^ n + 256 ^ n * (a / 256 ^ n % 256) : Nat) : Int) := congrArg _ h2
    simp only [Int.natCast_emod, Int.natCast_add, Int.natCast_mul, Int.natCast_ediv, Int.natCast_pow] at h3
    rw [show ((256 : Nat) : Int) = 256 from rfl] at h3
    rw [h3, Int.mul_comm]
/-- With R 1 and s 0. -/
def key1 : List Int := (List.replicate 32 0).set 0 1
theorem key1_bytes : Bytes key1 := fun x hx => by
  have : ∀ x ∈ key1, 0 ≤ x ∧ x < 256 := by decide
  exact this x hx
theorem mac1 {b : List Int} (hb : Bytes b) : macP key1 b = dig (Hn 1 b ((b.length + 15) / 16) % P130) := by
  have hc : Bytes (clampB key1) := fun x hx => by
    have : ∀ x ∈ clampB key1, 0 ≤ x ∧ x < 256 := by decide
    exact this x hx
  rw [macP_eq key1_bytes (by decide) hb hc, show NK (clampB key1) 16 = 1 by decide, show NK (key1.drop 16) 16 = 0 by decide, Int.add_zero]
theorem one_byte (b : List Int) (hb : Bytes b) : Bytes (b ++ [1]) := Bytes.append hb (fun x hx => by rw [List.mem_singleton] at hx; subst hx; decide)
theorem piece0 (b : List Int) (h : b.length ≤ 16) : pieceL b 0 = b := by
  rw [pieceL]
  show (b.take 16).drop 0 = b
  rw [List.take_of_length_le h, List.drop_zero]
theorem NK_one (b : List Int) : NK (b ++ [1]) (b ++ [1]).length = NK b b.length + 256 ^ b.length := by
  rw [List.length_append]
  show NK (b ++ [1]) b.length + rd (b ++ [1]) ((b.length : Nat) : Int) * 256 ^ b.length = _
  rw [rd_get _ _ (by simp), List.getElem_append_right (by omega), NK_congr (b ++ [1]) b b.length (fun k hk => rd_append_left _ _ _ hk)]
  simp
theorem Hn_1 (R : Int) (b : List Int) : Hn R b 1 = (0 + NK (pieceL b 0 ++ [1]) (pieceL b 0 ++ [1]).length) * R := by rw [Hn, Hn]
theorem Hn_2 (R : Int) (b : List Int) : Hn R b 2 = ((0 + NK (pieceL b 0 ++ [1]) (pieceL b 0 ++ [1]).length) * R + NK (pieceL b 1 ++ [1]) (pieceL b 1 ++ [1]).length) * R := by rw [Hn, Hn_1]
theorem NK_z1 : NK (List.replicate 16 0 ++ [1]) (List.replicate 16 (0 : Int) ++ [1]).length = 340282366920938463463374607431768211456 := by decide
theorem p16 : (256 : Int) ^ 16 = 340282366920938463463374607431768211456 := by decide
end Go.Proofs.Ytllaobhheokafaa.F
