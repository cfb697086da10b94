/- Plain facts on what Poly1305 comes to: numbers of limbs and the numbers that they stand for. No program in sight; each fact under the conditions that it states. -/
import Derived.Test.YtllaobhheokafaaPpoly
import Derived.Laws.BitsLemmas
namespace Go.Proofs.Ytllaobhheokafaa.F
open Go.RowKit Go.Proofs.Ytllaobhheokafaa.Q Go.Proofs.YtllaobhheokafaaW.PrintWords
set_option linter.unusedVariables false
theorem wrap64u {n : Int} (h0 : 0 ≤ n) (h1 : n < 18446744073709551616) : IntKind.u64.wrap n = n := by
  simp only [IntKind.wrap, IntKind.bits, IntKind.signed]
  simp
  omega
theorem wraps_u64 (n : Int) (h0 : 0 ≤ n) (h1 : n < 2 ^ 64) : IntKind.u64.wrap n = n := wrap64u h0 (by simpa using h1)
theorem mask26 (x : Int) (h0 : 0 ≤ x) (h1 : x < 18446744073709551616) : Go.bits .and .u64 x 67108863 = x % 67108864 := bits_mask .u64 64 (by decide) wraps_u64 26 (by decide) x h0 (by simpa using h1)
/-- The number that five limbs stand for. -/
def V5 (a b c d e : Int) : Int := a + b * 67108864 + c * 4503599627370496 + d * 302231454903657293676544 + e * 20282409603651670423947251286016
def P130 : Int := 1361129467683753853853498429727072845819
theorem times_val (a b c d e r s t u v : Int) :
   V5 (a*r + 5*(b*v) + 5*(c*u) + 5*(d*t) + 5*(e*s)) (a*s + b*r + 5*(c*v) + 5*(d*u) + 5*(e*t)) (a*t + b*s + c*r + 5*(d*v) + 5*(e*u)) (a*u + b*t + c*s + d*r + 5*(e*v)) (a*v + b*u + c*t + d*s + e*r)
    = V5 a b c d e * V5 r s t u v - P130 * ((b*v + c*u + d*t + e*s) + (c*v + d*u + e*t)*67108864 + (d*v + e*u)*4503599627370496 + e*v*302231454903657293676544) := by
  unfold V5 P130; grind
theorem car_eq (a b c d e : Int) (ha : 0 ≤ a ∧ a < 2305843009213693952) (hb : 0 ≤ b ∧ b < 2305843009213693952) (hc : 0 ≤ c ∧ c < 2305843009213693952) (hd : 0 ≤ d ∧ d < 2305843009213693952) (he : 0 ≤ e ∧ e < 2305843009213693952) :
    ∃ a' b' c' d' e' q, carW [a, b, c, d, e] = [a', b', c', d', e'] ∧ V5 a' b' c' d' e' = V5 a b c d e - P130 * q ∧ 0 ≤ a' ∧ a' < 67108864 + 5 * (e / 67108864 + 1025) ∧ 0 ≤ q ∧ q ≤ e / 67108864 + 1024 ∧ (0 ≤ b' ∧ b' < 67108864) ∧ (0 ≤ c' ∧ c' < 67108864) ∧ (0 ≤ d' ∧ d' < 67108864) ∧ (0 ≤ e' ∧ e' < 67108864) ∧ a' = a % 67108864 + 5 * q := by
  obtain ⟨s1, h1⟩ : ∃ s1, s1 = b + a / 67108864 := ⟨_, rfl⟩
  obtain ⟨s2, h2⟩ : ∃ s2, s2 = c + s1 / 67108864 := ⟨_, rfl⟩
  obtain ⟨s3, h3⟩ : ∃ s3, s3 = d + s2 / 67108864 := ⟨_, rfl⟩
  obtain ⟨s4, h4⟩ : ∃ s4, s4 = e + s3 / 67108864 := ⟨_, rfl⟩
  have w0 : IntKind.u64.wrap (a + 0) = a := by rw [Int.add_zero]; exact wrap64u ha.1 (by omega)
  have w1 : IntKind.u64.wrap (b + a / 67108864) = s1 := by rw [h1]; exact wrap64u (by omega) (by omega)
  have w2 : IntKind.u64.wrap (c + s1 / 67108864) = s2 := by rw [h2]; exact wrap64u (by omega) (by omega)
  have w3 : IntKind.u64.wrap (d + s2 / 67108864) = s3 := by rw [h3]; exact wrap64u (by omega) (by omega)
  have w4 : IntKind.u64.wrap (e + s3 / 67108864) = s4 := by rw [h4]; exact wrap64u (by omega) (by omega)
  have e1 : (carN [a, b, c, d, e] 1) = ([a % 67108864, b, c, d, e], a / 67108864) := by
    show ([Go.bits .and .u64 (IntKind.u64.wrap (a + 0)) 67108863, b, c, d, e], IntKind.u64.wrap (a + 0) / 67108864) = _
    rw [w0, mask26 a ha.1 (by omega)]
  have e2 : (carN [a, b, c, d, e] 2) = ([a % 67108864, s1 % 67108864, c, d, e], s1 / 67108864) := by
    rw [carN, e1]
    show ([a % 67108864, Go.bits .and .u64 (IntKind.u64.wrap (b + a / 67108864)) 67108863, c, d, e], IntKind.u64.wrap (b + a / 67108864) / 67108864) = _
    rw [w1, mask26 s1 (by omega) (by omega)]
  have e3 : (carN [a, b, c, d, e] 3) = ([a % 67108864, s1 % 67108864, s2 % 67108864, d, e], s2 / 67108864) := by
    rw [carN, e2]
    show ([a % 67108864, s1 % 67108864, Go.bits .and .u64 (IntKind.u64.wrap (c + s1 / 67108864)) 67108863, d, e], IntKind.u64.wrap (c + s1 / 67108864) / 67108864) = _
    rw [w2, mask26 s2 (by omega) (by omega)]
  have e4 : (carN [a, b, c, d, e] 4) = ([a % 67108864, s1 % 67108864, s2 % 67108864, s3 % 67108864, e], s3 / 67108864) := by
    rw [carN, e3]
    show ([a % 67108864, s1 % 67108864, s2 % 67108864, Go.bits .and .u64 (IntKind.u64.wrap (d + s2 / 67108864)) 67108863, e], IntKind.u64.wrap (d + s2 / 67108864) / 67108864) = _
    rw [w3, mask26 s3 (by omega) (by omega)]
  have e5 : (carN [a, b, c, d, e] 5) = ([a % 67108864, s1 % 67108864, s2 % 67108864, s3 % 67108864, s4 % 67108864], s4 / 67108864) := by
    rw [carN, e4]
    show ([a % 67108864, s1 % 67108864, s2 % 67108864, s3 % 67108864, Go.bits .and .u64 (IntKind.u64.wrap (e + s3 / 67108864)) 67108863], IntKind.u64.wrap (e + s3 / 67108864) / 67108864) = _
    rw [w4, mask26 s4 (by omega) (by omega)]
  have e6 : carW [a, b, c, d, e] = [a % 67108864 + 5 * (s4 / 67108864), s1 % 67108864, s2 % 67108864, s3 % 67108864, s4 % 67108864] := by
    rw [carW, e5]
    show [IntKind.u64.wrap (a % 67108864 + IntKind.u64.wrap (5 * (s4 / 67108864))), s1 % 67108864, s2 % 67108864, s3 % 67108864, s4 % 67108864] = _
    rw [wrap64u (n := 5 * (s4 / 67108864)) (by omega) (by omega), wrap64u (by omega) (by omega)]
  refine ⟨_, _, _, _, _, s4 / 67108864, e6, ?_, by omega, by omega, by omega, by omega, by omega, by omega, by omega, by omega, rfl⟩
  unfold V5 P130
  omega
end Go.Proofs.Ytllaobhheokafaa.F
