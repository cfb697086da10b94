/- Plain facts on what Poly1305 comes to: numbers of limbs and the numbers that they stand for. No program in sight; each fact under the conditions that it states. -/
import Derived.Test.YtllaobhheokafaaPpoly
import Derived.Laws.BitsLemmas
namespace Go.Proofs.Ytllaobhheokafaa.F
open Go.RowKit Go.Proofs.Ytllaobhheokafaa.Q Go.Proofs.YtllaobhheokafaaW.PrintWords
set_option linter.unusedVariables false
theorem wrap64u {n : Int} (h0 : 0 ≤ n) (h1 : n < 18446744073709551616) : IntKind.u64.wrap n = n := by
  simp only [IntKind.wrap, IntKind.bits, IntKind.signed]
  simp
  omega
theorem wraps_u64 (n : Int) (h0 : 0 ≤ n) (h1 : n < 2 ^ 64) : IntKind.u64.wrap n = n := wrap64u h0 (by simpa using h1)
theorem mask26 (x : Int) (h0 : 0 ≤ x) (h1 : x < 18446744073709551616) : Go.bits .and .u64 x 67108863 = x % 67108864 := bits_mask .u64 64 (by decide) wraps_u64 26 (by decide) x h0 (by simpa using h1)
/-- The number that five limbs stand for. -/
def V5 (a b c d e : Int) : Int := a + b * 67108864 + c * 4503599627370496 + d * 302231454903657293676544 + e * 20282409603651670423947251286016
def P130 : Int := 1361129467683753853853498429727072845819
theorem times_val (a b c d e r s t u v : Int) :
   V5 (a*r + 5*(b*v) + 5*(c*u) + 5*(d*t) + 5*(e*s)) (a*s + b*r + 5*(c*v) + 5*(d*u) + 5*(e*t)) (a*t + b*s + c*r + 5*(d*v) + 5*(e*u)) (a*u + b*t + c*s + d*r + 5*(e*v)) (a*v + b*u + c*t + d*s + e*r)
    = V5 a b c d e * V5 r s t u v - P130 * ((b*v + c*u + d*t + e*s) + (c*v + d*u + e*t)*67108864 + (d*v + e*u)*4503599627370496 + e*v*302231454903657293676544) := by
  unfold V5 P130; grind
theorem car_eq (a b c d e : Int) (ha : 0 ≤ a ∧ a < 2305843009213693952) (hb : 0 ≤ b ∧ b < 2305843009213693952) (hc : 0 ≤ c ∧ c < 2305843009213693952) (hd : 0 ≤ d ∧ d < 2305843009213693952) (he : 0 ≤ e ∧ e < 2305843009213693952) :
    ∃ a' b' c' d' e' q, carW [a, b, c, d, e] = [a', b', c', d', e'] ∧ V5 a' b' c' d' e' = V5 a b c d e - P130 * q ∧ (0 ≤ b' ∧ b' < 67108864) ∧ (0 ≤ c' ∧ c' < 67108864) ∧ (0 ≤ d' ∧ d' < 67108864) ∧ (0 ≤ e' ∧ e' < 67108864) ∧ a' = a % 67108864 + 5 * q ∧ q = (e + (d + (c + (b + a / 67108864) / 67108864) / 67108864) / 67108864) / 67108864 := by
  obtain ⟨s1, h1⟩ : ∃ s1, s1 = b + a / 67108864 := ⟨_, rfl⟩
  obtain ⟨s2, h2⟩ : ∃ s2, s2 = c + s1 / 67108864 := ⟨_, rfl⟩
  obtain ⟨s3, h3⟩ : ∃ s3, s3 = d + s2 / 67108864 := ⟨_, rfl⟩
  obtain ⟨s4, h4⟩ : ∃ s4, s4 = e + s3 / 67108864 := ⟨_, rfl⟩
  have w0 : IntKind.u64.wrap (a + 0) = a := by rw [Int.add_zero]; exact wrap64u ha.1 (by omega)
  have w1 : IntKind.u64.wrap (b + a / 67108864) = s1 := by rw [h1]; exact wrap64u (by omega) (by omega)
  have w2 : IntKind.u64.wrap (c + s1 / 67108864) = s2 := by rw [h2]; exact wrap64u (by omega) (by omega)
  have w3 : IntKind.u64.wrap (d + s2 / 67108864) = s3 := by rw [h3]; exact wrap64u (by omega) (by omega)
  have w4 : IntKind.u64.wrap (e + s3 / 67108864) = s4 := by rw [h4]; exact wrap64u (by omega) (by omega)
  have e1 : (carN [a, b, c, d, e] 1) = ([a % 67108864, b, c, d, e], a / 67108864) := by
    show ([Go.bits .and .u64 (IntKind.u64.wrap (a + 0)) 67108863, b, c, d, e], IntKind.u64.wrap (a + 0) / 67108864) = _
    rw [w0, mask26 a ha.1 (by omega)]
  have e2 : (carN [a, b, c, d, e] 2) = ([a % 67108864, s1 % 67108864, c, d, e], s1 / 67108864) := by
    rw [carN, e1]
    show ([a % 67108864, Go.bits .and .u64 (IntKind.u64.wrap (b + a / 67108864)) 67108863, c, d, e], IntKind.u64.wrap (b + a / 67108864) / 67108864) = _
    rw [w1, mask26 s1 (by omega) (by omega)]
  have e3 : (carN [a, b, c, d, e] 3) = ([a % 67108864, s1 % 67108864, s2 % 67108864, d, e], s2 / 67108864) := by
    rw [carN, e2]
    show ([a % 67108864, s1 % 67108864, Go.bits .and .u64 (IntKind.u64.wrap (c + s1 / 67108864)) 67108863, d, e], IntKind.u64.wrap (c + s1 / 67108864) / 67108864) = _
    rw [w2, mask26 s2 (by omega) (by omega)]
  have e4 : (carN [a, b, c, d, e] 4) = ([a % 67108864, s1 % 67108864, s2 % 67108864, s3 % 67108864, e], s3 / 67108864) := by
    rw [carN, e3]
    show ([a % 67108864, s1 % 67108864, s2 % 67108864, Go.bits .and .u64 (IntKind.u64.wrap (d + s2 / 67108864)) 67108863, e], IntKind.u64.wrap (d + s2 / 67108864) / 67108864) = _
    rw [w3, mask26 s3 (by omega) (by omega)]
  have e5 : (carN [a, b, c, d, e] 5) = ([a % 67108864, s1 % 67108864, s2 % 67108864, s3 % 67108864, s4 % 67108864], s4 / 67108864) := by
    rw [carN, e4]
    show ([a % 67108864, s1 % 67108864, s2 % 67108864, s3 % 67108864, Go.bits .and .u64 (IntKind.u64.wrap (e + s3 / 67108864)) 67108863], IntKind.u64.wrap (e + s3 / 67108864) / 67108864) = _
    rw [w4, mask26 s4 (by omega) (by omega)]
  have e6 : carW [a, b, c, d, e] = [a % 67108864 + 5 * (s4 / 67108864), s1 % 67108864, s2 % 67108864, s3 % 67108864, s4 % 67108864] := by
    rw [carW, e5]
    show [IntKind.u64.wrap (a % 67108864 + IntKind.u64.wrap (5 * (s4 / 67108864))), s1 % 67108864, s2 % 67108864, s3 % 67108864, s4 % 67108864] = _
    rw [wrap64u (n := 5 * (s4 / 67108864)) (by omega) (by omega), wrap64u (by omega) (by omega)]
  refine ⟨_, _, _, _, _, s4 / 67108864, e6, ?_, by omega, by omega, by omega, by omega, rfl, by rw [h4, h3, h2, h1]⟩
  unfold V5 P130
  omega
/-- Limbs that stand for a number, modulo p. -/
def Rep (l : List Int) (N : Int) : Prop := ∃ a b c d e q, l = [a, b, c, d, e] ∧ (0 ≤ a ∧ a < 134217728) ∧ (0 ≤ b ∧ b < 134217728) ∧ (0 ≤ c ∧ c < 134217728) ∧ (0 ≤ d ∧ d < 134217728) ∧ (0 ≤ e ∧ e < 134217728) ∧ V5 a b c d e = N + P130 * q
theorem car2_rep (a b c d e N q0 : Int) (ha : 0 ≤ a ∧ a < 2305843009213693952) (hb : 0 ≤ b ∧ b < 2305843009213693952) (hc : 0 ≤ c ∧ c < 2305843009213693952) (hd : 0 ≤ d ∧ d < 2305843009213693952) (he : 0 ≤ e ∧ e < 2305843009213693952) (hv : V5 a b c d e = N + P130 * q0) : Rep (carW (carW [a, b, c, d, e])) N := by
  obtain ⟨a1, b1, c1, d1, e1, q1, h1, v1, hb1, hc1, hd1, he1, ha1, hq1⟩ := car_eq a b c d e ha hb hc hd he
  obtain ⟨a2, b2, c2, d2, e2, q2, h2, v2, hb2, hc2, hd2, he2, ha2, hq2⟩ := car_eq a1 b1 c1 d1 e1 (by omega) (by omega) (by omega) (by omega) (by omega)
  refine ⟨a2, b2, c2, d2, e2, q0 - q1 - q2, by rw [h1, h2], by omega, by omega, by omega, by omega, by omega, ?_⟩
  rw [v2, v1, hv]
  grind
theorem add5 (a b c d e r s t u v : Int) (ha : 0 ≤ a ∧ a < 134217728) (hb : 0 ≤ b ∧ b < 134217728) (hc : 0 ≤ c ∧ c < 134217728) (hd : 0 ≤ d ∧ d < 134217728) (he : 0 ≤ e ∧ e < 134217728) (hr : 0 ≤ r ∧ r < 134217728) (hs : 0 ≤ s ∧ s < 134217728) (ht : 0 ≤ t ∧ t < 134217728) (hu : 0 ≤ u ∧ u < 134217728) (hv : 0 ≤ v ∧ v < 134217728) :
    addN [a, b, c, d, e] [r, s, t, u, v] 5 = [a + r, b + s, c + t, d + u, e + v] := by
  show [IntKind.u64.wrap (a + r), IntKind.u64.wrap (b + s), IntKind.u64.wrap (c + t), IntKind.u64.wrap (d + u), IntKind.u64.wrap (e + v)] = _
  rw [wrap64u (by omega) (by omega), wrap64u (by omega) (by omega), wrap64u (by omega) (by omega), wrap64u (by omega) (by omega), wrap64u (by omega) (by omega)]
theorem plus_rep {l m : List Int} {N K : Int} (h1 : Rep l N) (h2 : Rep m K) : Rep (plusW l m) (N + K) := by
  obtain ⟨a, b, c, d, e, q, rfl, ha, hb, hc, hd, he, hv⟩ := h1
  obtain ⟨r, s, t, u, v, p, rfl, hr, hs, ht, hu, hv', hw⟩ := h2
  rw [plusW, add5 a b c d e r s t u v ha hb hc hd he hr hs ht hu hv']
  obtain ⟨a1, b1, c1, d1, e1, q1, h1, v1, hb1, hc1, hd1, he1, ha1, hq1⟩ := car_eq (a + r) (b + s) (c + t) (d + u) (e + v) (by omega) (by omega) (by omega) (by omega) (by omega)
  refine ⟨a1, b1, c1, d1, e1, q + p - q1, h1, by omega, by omega, by omega, by omega, by omega, ?_⟩
  rw [v1]
  have : V5 (a + r) (b + s) (c + t) (d + u) (e + v) = V5 a b c d e + V5 r s t u v := by unfold V5; grind
  rw [this, hv, hw]
  grind
theorem mul_bd {x y : Int} (hx : 0 ≤ x ∧ x < 134217728) (hy : 0 ≤ y ∧ y < 134217728) : 0 ≤ x * y ∧ x * y ≤ 18014398241046529 := by
  refine ⟨Int.mul_nonneg hx.1 hy.1, ?_⟩
  have h1 : x * y ≤ 134217727 * y := Int.mul_le_mul_of_nonneg_right (by omega) hy.1
  omega
theorem mulV_eq (n r : List Int) (i j : Nat) (h : 0 ≤ rd n i * rd r j ∧ rd n i * rd r j ≤ 18014398241046529) : mulV n r i j = if 5 ≤ i + j then 5 * (rd n i * rd r j) else rd n i * rd r j := by
  unfold mulV
  rw [wrap64u h.1 (by omega)]
  split
  · rw [wrap64u (by omega) (by omega)]; omega
  · rfl
theorem timI_eq (a b c d e r s t u v : Int) (ha : 0 ≤ a ∧ a < 134217728) (hb : 0 ≤ b ∧ b < 134217728) (hc : 0 ≤ c ∧ c < 134217728) (hd : 0 ≤ d ∧ d < 134217728) (he : 0 ≤ e ∧ e < 134217728) (hr : 0 ≤ r ∧ r < 134217728) (hs : 0 ≤ s ∧ s < 134217728) (ht : 0 ≤ t ∧ t < 134217728) (hu : 0 ≤ u ∧ u < 134217728) (hv : 0 ≤ v ∧ v < 134217728) :
    timI [a, b, c, d, e] [r, s, t, u, v] 5 = [a * r + 5 * (b * v) + 5 * (c * u) + 5 * (d * t) + 5 * (e * s), a * s + b * r + 5 * (c * v) + 5 * (d * u) + 5 * (e * t), a * t + b * s + c * r + 5 * (d * v) + 5 * (e * u), a * u + b * t + c * s + d * r + 5 * (e * v), a * v + b * u + c * t + d * s + e * r] := by
  have m00 := mul_bd ha hr
  have m01 := mul_bd ha hs
  have m02 := mul_bd ha ht
  have m03 := mul_bd ha hu
  have m04 := mul_bd ha hv
  have m10 := mul_bd hb hr
  have m11 := mul_bd hb hs
  have m12 := mul_bd hb ht
  have m13 := mul_bd hb hu
  have m14 := mul_bd hb hv
  have m20 := mul_bd hc hr
  have m21 := mul_bd hc hs
  have m22 := mul_bd hc ht
  have m23 := mul_bd hc hu
  have m24 := mul_bd hc hv
  have m30 := mul_bd hd hr
  have m31 := mul_bd hd hs
  have m32 := mul_bd hd ht
  have m33 := mul_bd hd hu
  have m34 := mul_bd hd hv
  have m40 := mul_bd he hr
  have m41 := mul_bd he hs
  have m42 := mul_bd he ht
  have m43 := mul_bd he hu
  have m44 := mul_bd he hv
  have s00 : timI [a, b, c, d, e] [r, s, t, u, v] 0 = [0, 0, 0, 0, 0] := rfl
  have j00 : timJ [a, b, c, d, e] [r, s, t, u, v] [0, 0, 0, 0, 0] 0 0 = [0, 0, 0, 0, 0] := rfl
  have j01 : timJ [a, b, c, d, e] [r, s, t, u, v] [0, 0, 0, 0, 0] 0 1 = [a * r, 0, 0, 0, 0] := by
    rw [timJ, j00, mulV_eq [a, b, c, d, e] [r, s, t, u, v] 0 0 m00]
    show [IntKind.u64.wrap (0 + a * r), 0, 0, 0, 0] = _
    rw [wrap64u (by omega) (by omega)]
    rw [Int.zero_add]
  have j02 : timJ [a, b, c, d, e] [r, s, t, u, v] [0, 0, 0, 0, 0] 0 2 = [a * r, a * s, 0, 0, 0] := by
    rw [timJ, j01, mulV_eq [a, b, c, d, e] [r, s, t, u, v] 0 1 m01]
    show [a * r, IntKind.u64.wrap (0 + a * s), 0, 0, 0] = _
    rw [wrap64u (by omega) (by omega)]
    rw [Int.zero_add]
  have j03 : timJ [a, b, c, d, e] [r, s, t, u, v] [0, 0, 0, 0, 0] 0 3 = [a * r, a * s, a * t, 0, 0] := by
    rw [timJ, j02, mulV_eq [a, b, c, d, e] [r, s, t, u, v] 0 2 m02]
    show [a * r, a * s, IntKind.u64.wrap (0 + a * t), 0, 0] = _
    rw [wrap64u (by omega) (by omega)]
    rw [Int.zero_add]
  have j04 : timJ [a, b, c, d, e] [r, s, t, u, v] [0, 0, 0, 0, 0] 0 4 = [a * r, a * s, a * t, a * u, 0] := by
    rw [timJ, j03, mulV_eq [a, b, c, d, e] [r, s, t, u, v] 0 3 m03]
    show [a * r, a * s, a * t, IntKind.u64.wrap (0 + a * u), 0] = _
    rw [wrap64u (by omega) (by omega)]
    rw [Int.zero_add]
  have j05 : timJ [a, b, c, d, e] [r, s, t, u, v] [0, 0, 0, 0, 0] 0 5 = [a * r, a * s, a * t, a * u, a * v] := by
    rw [timJ, j04, mulV_eq [a, b, c, d, e] [r, s, t, u, v] 0 4 m04]
    show [a * r, a * s, a * t, a * u, IntKind.u64.wrap (0 + a * v)] = _
    rw [wrap64u (by omega) (by omega)]
    rw [Int.zero_add]
  have s10 : timI [a, b, c, d, e] [r, s, t, u, v] 1 = [a * r, a * s, a * t, a * u, a * v] := by rw [timI, s00, j05]
  have j10 : timJ [a, b, c, d, e] [r, s, t, u, v] [a * r, a * s, a * t, a * u, a * v] 1 0 = [a * r, a * s, a * t, a * u, a * v] := rfl
  have j11 : timJ [a, b, c, d, e] [r, s, t, u, v] [a * r, a * s, a * t, a * u, a * v] 1 1 = [a * r, a * s + b * r, a * t, a * u, a * v] := by
    rw [timJ, j10, mulV_eq [a, b, c, d, e] [r, s, t, u, v] 1 0 m10]
    show [a * r, IntKind.u64.wrap (a * s + b * r), a * t, a * u, a * v] = _
    rw [wrap64u (by omega) (by omega)]
  have j12 : timJ [a, b, c, d, e] [r, s, t, u, v] [a * r, a * s, a * t, a * u, a * v] 1 2 = [a * r, a * s + b * r, a * t + b * s, a * u, a * v] := by
    rw [timJ, j11, mulV_eq [a, b, c, d, e] [r, s, t, u, v] 1 1 m11]
    show [a * r, a * s + b * r, IntKind.u64.wrap (a * t + b * s), a * u, a * v] = _
    rw [wrap64u (by omega) (by omega)]
  have j13 : timJ [a, b, c, d, e] [r, s, t, u, v] [a * r, a * s, a * t, a * u, a * v] 1 3 = [a * r, a * s + b * r, a * t + b * s, a * u + b * t, a * v] := by
    rw [timJ, j12, mulV_eq [a, b, c, d, e] [r, s, t, u, v] 1 2 m12]
    show [a * r, a * s + b * r, a * t + b * s, IntKind.u64.wrap (a * u + b * t), a * v] = _
    rw [wrap64u (by omega) (by omega)]
  have j14 : timJ [a, b, c, d, e] [r, s, t, u, v] [a * r, a * s, a * t, a * u, a * v] 1 4 = [a * r, a * s + b * r, a * t + b * s, a * u + b * t, a * v + b * u] := by
    rw [timJ, j13, mulV_eq [a, b, c, d, e] [r, s, t, u, v] 1 3 m13]
    show [a * r, a * s + b * r, a * t + b * s, a * u + b * t, IntKind.u64.wrap (a * v + b * u)] = _
    rw [wrap64u (by omega) (by omega)]
  have j15 : timJ [a, b, c, d, e] [r, s, t, u, v] [a * r, a * s, a * t, a * u, a * v] 1 5 = [a * r + 5 * (b * v), a * s + b * r, a * t + b * s, a * u + b * t, a * v + b * u] := by
    rw [timJ, j14, mulV_eq [a, b, c, d, e] [r, s, t, u, v] 1 4 m14]
    show [IntKind.u64.wrap (a * r + 5 * (b * v)), a * s + b * r, a * t + b * s, a * u + b * t, a * v + b * u] = _
    rw [wrap64u (by omega) (by omega)]
  have s20 : timI [a, b, c, d, e] [r, s, t, u, v] 2 = [a * r + 5 * (b * v), a * s + b * r, a * t + b * s, a * u + b * t, a * v + b * u] := by rw [timI, s10, j15]
  have j20 : timJ [a, b, c, d, e] [r, s, t, u, v] [a * r + 5 * (b * v), a * s + b * r, a * t + b * s, a * u + b * t, a * v + b * u] 2 0 = [a * r + 5 * (b * v), a * s + b * r, a * t + b * s, a * u + b * t, a * v + b * u] := rfl
  have j21 : timJ [a, b, c, d, e] [r, s, t, u, v] [a * r + 5 * (b * v), a * s + b * r, a * t + b * s, a * u + b * t, a * v + b * u] 2 1 = [a * r + 5 * (b * v), a * s + b * r, a * t + b * s + c * r, a * u + b * t, a * v + b * u] := by
    rw [timJ, j20, mulV_eq [a, b, c, d, e] [r, s, t, u, v] 2 0 m20]
    show [a * r + 5 * (b * v), a * s + b * r, IntKind.u64.wrap ((a * t + b * s) + c * r), a * u + b * t, a * v + b * u] = _
    rw [wrap64u (by omega) (by omega)]
  have j22 : timJ [a, b, c, d, e] [r, s, t, u, v] [a * r + 5 * (b * v), a * s + b * r, a * t + b * s, a * u + b * t, a * v + b * u] 2 2 = [a * r + 5 * (b * v), a * s + b * r, a * t + b * s + c * r, a * u + b * t + c * s, a * v + b * u] := by
    rw [timJ, j21, mulV_eq [a, b, c, d, e] [r, s, t, u, v] 2 1 m21]
    show [a * r + 5 * (b * v), a * s + b * r, a * t + b * s + c * r, IntKind.u64.wrap ((a * u + b * t) + c * s), a * v + b * u] = _
    rw [wrap64u (by omega) (by omega)]
  have j23 : timJ [a, b, c, d, e] [r, s, t, u, v] [a * r + 5 * (b * v), a * s + b * r, a * t + b * s, a * u + b * t, a * v + b * u] 2 3 = [a * r + 5 * (b * v), a * s + b * r, a * t + b * s + c * r, a * u + b * t + c * s, a * v + b * u + c * t] := by
    rw [timJ, j22, mulV_eq [a, b, c, d, e] [r, s, t, u, v] 2 2 m22]
    show [a * r + 5 * (b * v), a * s + b * r, a * t + b * s + c * r, a * u + b * t + c * s, IntKind.u64.wrap ((a * v + b * u) + c * t)] = _
    rw [wrap64u (by omega) (by omega)]
  have j24 : timJ [a, b, c, d, e] [r, s, t, u, v] [a * r + 5 * (b * v), a * s + b * r, a * t + b * s, a * u + b * t, a * v + b * u] 2 4 = [a * r + 5 * (b * v) + 5 * (c * u), a * s + b * r, a * t + b * s + c * r, a * u + b * t + c * s, a * v + b * u + c * t] := by
    rw [timJ, j23, mulV_eq [a, b, c, d, e] [r, s, t, u, v] 2 3 m23]
    show [IntKind.u64.wrap ((a * r + 5 * (b * v)) + 5 * (c * u)), a * s + b * r, a * t + b * s + c * r, a * u + b * t + c * s, a * v + b * u + c * t] = _
    rw [wrap64u (by omega) (by omega)]
  have j25 : timJ [a, b, c, d, e] [r, s, t, u, v] [a * r + 5 * (b * v), a * s + b * r, a * t + b * s, a * u + b * t, a * v + b * u] 2 5 = [a * r + 5 * (b * v) + 5 * (c * u), a * s + b * r + 5 * (c * v), a * t + b * s + c * r, a * u + b * t + c * s, a * v + b * u + c * t] := by
    rw [timJ, j24, mulV_eq [a, b, c, d, e] [r, s, t, u, v] 2 4 m24]
    show [a * r + 5 * (b * v) + 5 * (c * u), IntKind.u64.wrap ((a * s + b * r) + 5 * (c * v)), a * t + b * s + c * r, a * u + b * t + c * s, a * v + b * u + c * t] = _
    rw [wrap64u (by omega) (by omega)]
  have s30 : timI [a, b, c, d, e] [r, s, t, u, v] 3 = [a * r + 5 * (b * v) + 5 * (c * u), a * s + b * r + 5 * (c * v), a * t + b * s + c * r, a * u + b * t + c * s, a * v + b * u + c * t] := by rw [timI, s20, j25]
  have j30 : timJ [a, b, c, d, e] [r, s, t, u, v] [a * r + 5 * (b * v) + 5 * (c * u), a * s + b * r + 5 * (c * v), a * t + b * s + c * r, a * u + b * t + c * s, a * v + b * u + c * t] 3 0 = [a * r + 5 * (b * v) + 5 * (c * u), a * s + b * r + 5 * (c * v), a * t + b * s + c * r, a * u + b * t + c * s, a * v + b * u + c * t] := rfl
  have j31 : timJ [a, b, c, d, e] [r, s, t, u, v] [a * r + 5 * (b * v) + 5 * (c * u), a * s + b * r + 5 * (c * v), a * t + b * s + c * r, a * u + b * t + c * s, a * v + b * u + c * t] 3 1 = [a * r + 5 * (b * v) + 5 * (c * u), a * s + b * r + 5 * (c * v), a * t + b * s + c * r, a * u + b * t + c * s + d * r, a * v + b * u + c * t] := by
    rw [timJ, j30, mulV_eq [a, b, c, d, e] [r, s, t, u, v] 3 0 m30]
    show [a * r + 5 * (b * v) + 5 * (c * u), a * s + b * r + 5 * (c * v), a * t + b * s + c * r, IntKind.u64.wrap ((a * u + b * t + c * s) + d * r), a * v + b * u + c * t] = _
    rw [wrap64u (by omega) (by omega)]
  have j32 : timJ [a, b, c, d, e] [r, s, t, u, v] [a * r + 5 * (b * v) + 5 * (c * u), a * s + b * r + 5 * (c * v), a * t + b * s + c * r, a * u + b * t + c * s, a * v + b * u + c * t] 3 2 = [a * r + 5 * (b * v) + 5 * (c * u), a * s + b * r + 5 * (c * v), a * t + b * s + c * r, a * u + b * t + c * s + d * r, a * v + b * u + c * t + d * s] := by
    rw [timJ, j31, mulV_eq [a, b, c, d, e] [r, s, t, u, v] 3 1 m31]
    show [a * r + 5 * (b * v) + 5 * (c * u), a * s + b * r + 5 * (c * v), a * t + b * s + c * r, a * u + b * t + c * s + d * r, IntKind.u64.wrap ((a * v + b * u + c * t) + d * s)] = _
    rw [wrap64u (by omega) (by omega)]
  have j33 : timJ [a, b, c, d, e] [r, s, t, u, v] [a * r + 5 * (b * v) + 5 * (c * u), a * s + b * r + 5 * (c * v), a * t + b * s + c * r, a * u + b * t + c * s, a * v + b * u + c * t] 3 3 = [a * r + 5 * (b * v) + 5 * (c * u) + 5 * (d * t), a * s + b * r + 5 * (c * v), a * t + b * s + c * r, a * u + b * t + c * s + d * r, a * v + b * u + c * t + d * s] := by
    rw [timJ, j32, mulV_eq [a, b, c, d, e] [r, s, t, u, v] 3 2 m32]
    show [IntKind.u64.wrap ((a * r + 5 * (b * v) + 5 * (c * u)) + 5 * (d * t)), a * s + b * r + 5 * (c * v), a * t + b * s + c * r, a * u + b * t + c * s + d * r, a * v + b * u + c * t + d * s] = _
    rw [wrap64u (by omega) (by omega)]
  have j34 : timJ [a, b, c, d, e] [r, s, t, u, v] [a * r + 5 * (b * v) + 5 * (c * u), a * s + b * r + 5 * (c * v), a * t + b * s + c * r, a * u + b * t + c * s, a * v + b * u + c * t] 3 4 = [a * r + 5 * (b * v) + 5 * (c * u) + 5 * (d * t), a * s + b * r + 5 * (c * v) + 5 * (d * u), a * t + b * s + c * r, a * u + b * t + c * s + d * r, a * v + b * u + c * t + d * s] := by
    rw [timJ, j33, mulV_eq [a, b, c, d, e] [r, s, t, u, v] 3 3 m33]
    show [a * r + 5 * (b * v) + 5 * (c * u) + 5 * (d * t), IntKind.u64.wrap ((a * s + b * r + 5 * (c * v)) + 5 * (d * u)), a * t + b * s + c * r, a * u + b * t + c * s + d * r, a * v + b * u + c * t + d * s] = _
    rw [wrap64u (by omega) (by omega)]
  have j35 : timJ [a, b, c, d, e] [r, s, t, u, v] [a * r + 5 * (b * v) + 5 * (c * u), a * s + b * r + 5 * (c * v), a * t + b * s + c * r, a * u + b * t + c * s, a * v + b * u + c * t] 3 5 = [a * r + 5 * (b * v) + 5 * (c * u) + 5 * (d * t), a * s + b * r + 5 * (c * v) + 5 * (d * u), a * t + b * s + c * r + 5 * (d * v), a * u + b * t + c * s + d * r, a * v + b * u + c * t + d * s] := by
    rw [timJ, j34, mulV_eq [a, b, c, d, e] [r, s, t, u, v] 3 4 m34]
    show [a * r + 5 * (b * v) + 5 * (c * u) + 5 * (d * t), a * s + b * r + 5 * (c * v) + 5 * (d * u), IntKind.u64.wrap ((a * t + b * s + c * r) + 5 * (d * v)), a * u + b * t + c * s + d * r, a * v + b * u + c * t + d * s] = _
    rw [wrap64u (by omega) (by omega)]
  have s40 : timI [a, b, c, d, e] [r, s, t, u, v] 4 = [a * r + 5 * (b * v) + 5 * (c * u) + 5 * (d * t), a * s + b * r + 5 * (c * v) + 5 * (d * u), a * t + b * s + c * r + 5 * (d * v), a * u + b * t + c * s + d * r, a * v + b * u + c * t + d * s] := by rw [timI, s30, j35]
  have j40 : timJ [a, b, c, d, e] [r, s, t, u, v] [a * r + 5 * (b * v) + 5 * (c * u) + 5 * (d * t), a * s + b * r + 5 * (c * v) + 5 * (d * u), a * t + b * s + c * r + 5 * (d * v), a * u + b * t + c * s + d * r, a * v + b * u + c * t + d * s] 4 0 = [a * r + 5 * (b * v) + 5 * (c * u) + 5 * (d * t), a * s + b * r + 5 * (c * v) + 5 * (d * u), a * t + b * s + c * r + 5 * (d * v), a * u + b * t + c * s + d * r, a * v + b * u + c * t + d * s] := rfl
  have j41 : timJ [a, b, c, d, e] [r, s, t, u, v] [a * r + 5 * (b * v) + 5 * (c * u) + 5 * (d * t), a * s + b * r + 5 * (c * v) + 5 * (d * u), a * t + b * s + c * r + 5 * (d * v), a * u + b * t + c * s + d * r, a * v + b * u + c * t + d * s] 4 1 = [a * r + 5 * (b * v) + 5 * (c * u) + 5 * (d * t), a * s + b * r + 5 * (c * v) + 5 * (d * u), a * t + b * s + c * r + 5 * (d * v), a * u + b * t + c * s + d * r, a * v + b * u + c * t + d * s + e * r] := by
    rw [timJ, j40, mulV_eq [a, b, c, d, e] [r, s, t, u, v] 4 0 m40]
    show [a * r + 5 * (b * v) + 5 * (c * u) + 5 * (d * t), a * s + b * r + 5 * (c * v) + 5 * (d * u), a * t + b * s + c * r + 5 * (d * v), a * u + b * t + c * s + d * r, IntKind.u64.wrap ((a * v + b * u + c * t + d * s) + e * r)] = _
    rw [wrap64u (by omega) (by omega)]
  have j42 : timJ [a, b, c, d, e] [r, s, t, u, v] [a * r + 5 * (b * v) + 5 * (c * u) + 5 * (d * t), a * s + b * r + 5 * (c * v) + 5 * (d * u), a * t + b * s + c * r + 5 * (d * v), a * u + b * t + c * s + d * r, a * v + b * u + c * t + d * s] 4 2 = [a * r + 5 * (b * v) + 5 * (c * u) + 5 * (d * t) + 5 * (e * s), a * s + b * r + 5 * (c * v) + 5 * (d * u), a * t + b * s + c * r + 5 * (d * v), a * u + b * t + c * s + d * r, a * v + b * u + c * t + d * s + e * r] := by
    rw [timJ, j41, mulV_eq [a, b, c, d, e] [r, s, t, u, v] 4 1 m41]
    show [IntKind.u64.wrap ((a * r + 5 * (b * v) + 5 * (c * u) + 5 * (d * t)) + 5 * (e * s)), a * s + b * r + 5 * (c * v) + 5 * (d * u), a * t + b * s + c * r + 5 * (d * v), a * u + b * t + c * s + d * r, a * v + b * u + c * t + d * s + e * r] = _
    rw [wrap64u (by omega) (by omega)]
  have j43 : timJ [a, b, c, d, e] [r, s, t, u, v] [a * r + 5 * (b * v) + 5 * (c * u) + 5 * (d * t), a * s + b * r + 5 * (c * v) + 5 * (d * u), a * t + b * s + c * r + 5 * (d * v), a * u + b * t + c * s + d * r, a * v + b * u + c * t + d * s] 4 3 = [a * r + 5 * (b * v) + 5 * (c * u) + 5 * (d * t) + 5 * (e * s), a * s + b * r + 5 * (c * v) + 5 * (d * u) + 5 * (e * t), a * t + b * s + c * r + 5 * (d * v), a * u + b * t + c * s + d * r, a * v + b * u + c * t + d * s + e * r] := by
    rw [timJ, j42, mulV_eq [a, b, c, d, e] [r, s, t, u, v] 4 2 m42]
    show [a * r + 5 * (b * v) + 5 * (c * u) + 5 * (d * t) + 5 * (e * s), IntKind.u64.wrap ((a * s + b * r + 5 * (c * v) + 5 * (d * u)) + 5 * (e * t)), a * t + b * s + c * r + 5 * (d * v), a * u + b * t + c * s + d * r, a * v + b * u + c * t + d * s + e * r] = _
    rw [wrap64u (by omega) (by omega)]
  have j44 : timJ [a, b, c, d, e] [r, s, t, u, v] [a * r + 5 * (b * v) + 5 * (c * u) + 5 * (d * t), a * s + b * r + 5 * (c * v) + 5 * (d * u), a * t + b * s + c * r + 5 * (d * v), a * u + b * t + c * s + d * r, a * v + b * u + c * t + d * s] 4 4 = [a * r + 5 * (b * v) + 5 * (c * u) + 5 * (d * t) + 5 * (e * s), a * s + b * r + 5 * (c * v) + 5 * (d * u) + 5 * (e * t), a * t + b * s + c * r + 5 * (d * v) + 5 * (e * u), a * u + b * t + c * s + d * r, a * v + b * u + c * t + d * s + e * r] := by
    rw [timJ, j43, mulV_eq [a, b, c, d, e] [r, s, t, u, v] 4 3 m43]
    show [a * r + 5 * (b * v) + 5 * (c * u) + 5 * (d * t) + 5 * (e * s), a * s + b * r + 5 * (c * v) + 5 * (d * u) + 5 * (e * t), IntKind.u64.wrap ((a * t + b * s + c * r + 5 * (d * v)) + 5 * (e * u)), a * u + b * t + c * s + d * r, a * v + b * u + c * t + d * s + e * r] = _
    rw [wrap64u (by omega) (by omega)]
  have j45 : timJ [a, b, c, d, e] [r, s, t, u, v] [a * r + 5 * (b * v) + 5 * (c * u) + 5 * (d * t), a * s + b * r + 5 * (c * v) + 5 * (d * u), a * t + b * s + c * r + 5 * (d * v), a * u + b * t + c * s + d * r, a * v + b * u + c * t + d * s] 4 5 = [a * r + 5 * (b * v) + 5 * (c * u) + 5 * (d * t) + 5 * (e * s), a * s + b * r + 5 * (c * v) + 5 * (d * u) + 5 * (e * t), a * t + b * s + c * r + 5 * (d * v) + 5 * (e * u), a * u + b * t + c * s + d * r + 5 * (e * v), a * v + b * u + c * t + d * s + e * r] := by
    rw [timJ, j44, mulV_eq [a, b, c, d, e] [r, s, t, u, v] 4 4 m44]
    show [a * r + 5 * (b * v) + 5 * (c * u) + 5 * (d * t) + 5 * (e * s), a * s + b * r + 5 * (c * v) + 5 * (d * u) + 5 * (e * t), a * t + b * s + c * r + 5 * (d * v) + 5 * (e * u), IntKind.u64.wrap ((a * u + b * t + c * s + d * r) + 5 * (e * v)), a * v + b * u + c * t + d * s + e * r] = _
    rw [wrap64u (by omega) (by omega)]
  have s50 : timI [a, b, c, d, e] [r, s, t, u, v] 5 = [a * r + 5 * (b * v) + 5 * (c * u) + 5 * (d * t) + 5 * (e * s), a * s + b * r + 5 * (c * v) + 5 * (d * u) + 5 * (e * t), a * t + b * s + c * r + 5 * (d * v) + 5 * (e * u), a * u + b * t + c * s + d * r + 5 * (e * v), a * v + b * u + c * t + d * s + e * r] := by rw [timI, s40, j45]
  exact s50
theorem times_rep {l m : List Int} {N K : Int} (h1 : Rep l N) (h2 : Rep m K) : Rep (timesW l m) (N * K) := by
  obtain ⟨a, b, c, d, e, q, rfl, ha, hb, hc, hd, he, hv⟩ := h1
  obtain ⟨r, s, t, u, v, p, rfl, hr, hs, ht, hu, hv', hw⟩ := h2
  have m00 := mul_bd ha hr
  have m01 := mul_bd ha hs
  have m02 := mul_bd ha ht
  have m03 := mul_bd ha hu
  have m04 := mul_bd ha hv'
  have m10 := mul_bd hb hr
  have m11 := mul_bd hb hs
  have m12 := mul_bd hb ht
  have m13 := mul_bd hb hu
  have m14 := mul_bd hb hv'
  have m20 := mul_bd hc hr
  have m21 := mul_bd hc hs
  have m22 := mul_bd hc ht
  have m23 := mul_bd hc hu
  have m24 := mul_bd hc hv'
  have m30 := mul_bd hd hr
  have m31 := mul_bd hd hs
  have m32 := mul_bd hd ht
  have m33 := mul_bd hd hu
  have m34 := mul_bd hd hv'
  have m40 := mul_bd he hr
  have m41 := mul_bd he hs
  have m42 := mul_bd he ht
  have m43 := mul_bd he hu
  have m44 := mul_bd he hv'
  rw [timesW, timI_eq a b c d e r s t u v ha hb hc hd he hr hs ht hu hv']
  refine car2_rep _ _ _ _ _ (N * K) (N * p + K * q + P130 * q * p - ((b*v + c*u + d*t + e*s) + (c*v + d*u + e*t)*67108864 + (d*v + e*u)*4503599627370496 + e*v*302231454903657293676544)) (by omega) (by omega) (by omega) (by omega) (by omega) ?_
  have ht := times_val a b c d e r s t u v
  have he2 : V5 (a * r + 5 * (b * v) + 5 * (c * u) + 5 * (d * t) + 5 * (e * s)) (a * s + b * r + 5 * (c * v) + 5 * (d * u) + 5 * (e * t)) (a * t + b * s + c * r + 5 * (d * v) + 5 * (e * u)) (a * u + b * t + c * s + d * r + 5 * (e * v)) (a * v + b * u + c * t + d * s + e * r) = V5 (a*r + 5*(b*v) + 5*(c*u) + 5*(d*t) + 5*(e*s)) (a*s + b*r + 5*(c*v) + 5*(d*u) + 5*(e*t)) (a*t + b*s + c*r + 5*(d*v) + 5*(e*u)) (a*u + b*t + c*s + d*r + 5*(e*v)) (a*v + b*u + c*t + d*s + e*r) := by congr 1 <;> omega
  rw [he2, ht, hv, hw]
  grind
end Go.Proofs.Ytllaobhheokafaa.F
