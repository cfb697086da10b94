/- Plain facts on what Poly1305 comes to: the tag as a number. No program in sight; each fact under the conditions that it states. -/
import Derived.Test.YtllaobhheokafaaFpo2
import Derived.Test.YtllaobhheokafaaFpol16
namespace Go.Proofs.Ytllaobhheokafaa.F
open Go.RowKit Go.Proofs.Ytllaobhheokafaa.Q Go.Proofs.YtllaobhheokafaaW.PrintWords Go.Proofs.YtllaobhheokafaaW.PrintLast Go.Proofs.YtllaobhheokafaaW.PrintMore
set_option linter.unusedVariables false
theorem whole_eq {l : List Int} {N : Int} (h : Rep l N) : ∃ v0 v1 v2 v3 v4, wholeW l = [v0, v1, v2, v3, v4] ∧ (0 ≤ v0 ∧ v0 < 134217728) ∧ (0 ≤ v1 ∧ v1 < 134217728) ∧ (0 ≤ v2 ∧ v2 < 134217728) ∧ (0 ≤ v3 ∧ v3 < 134217728) ∧ (0 ≤ v4 ∧ v4 < 134217728) ∧ V5 v0 v1 v2 v3 v4 = N % P130 := by
  obtain ⟨a, b, c, d, e, q, rfl, ha, hb, hc, hd, he, hv⟩ := h
  obtain ⟨a1, b1, c1, d1, e1, q1, h1, v1, hb1, hc1, hd1, he1, ha1, hq1⟩ := car_eq a b c d e (by omega) (by omega) (by omega) (by omega) (by omega)
  obtain ⟨a2, b2, c2, d2, e2, q2, h2, v2, hb2, hc2, hd2, he2, ha2, hq2⟩ := car_eq a1 b1 c1 d1 e1 (by omega) (by omega) (by omega) (by omega) (by omega)
  have hq1b : 0 ≤ q1 ∧ q1 ≤ 3 := by omega
  have hq2b : 0 ≤ q2 ∧ q2 ≤ 1 := by omega
  have hlt : 0 ≤ a2 ∧ a2 < 67108884 := by omega
  have hV : V5 a2 b2 c2 d2 e2 = N + P130 * (q - q1 - q2) := by rw [v2, v1, hv]; grind
  obtain ⟨t, ht⟩ : ∃ t, t = q - q1 - q2 := ⟨_, rfl⟩
  rw [← ht] at hV
  obtain ⟨a3, b3, c3, d3, e3, h3, ha3, hb3, hc3, hd3, he3, v3⟩ := upN_eq (a2 + 5) b2 c2 d2 e2 (by omega) (by omega) (by omega) (by omega) (by omega)
  have hl : lessW [a2, b2, c2, d2, e2] = [a3, b3, c3, d3, e3] := by
    unfold lessW
    show upN [IntKind.u64.wrap (a2 + 5), b2, c2, d2, e2] 4 = _
    rw [wrap64u (by omega) (by omega), h3]
  clear hv v1 v2 h3 ha1 hq1 ha2 hq2 hb1 hc1 hd1 he1 ha hb hc hd he hq1b hq2b ht
  unfold wholeW
  rw [h1, h2, hl]
  have hr : rd [a3, b3, c3, d3, e3] 4 = e3 := rfl
  rw [hr]
  unfold V5 at v3 hV
  unfold P130 at hV
  split
  · refine ⟨a2, b2, c2, d2, e2, rfl, by omega, by omega, by omega, by omega, by omega, ?_⟩
    unfold V5 P130
    have : e3 < 67108864 := by omega
    clear hl hr
    omega
  · refine ⟨a3, b3, c3, d3, e3 % 67108864, ?_, by omega, by omega, by omega, by omega, by omega, ?_⟩
    · show [a3, b3, c3, d3, Go.bits .and .u64 e3 67108863] = _
      rw [mask26 e3 he3.1 (by omega)]
    · have h5 : e3 / 67108864 = 1 := by omega
      unfold V5 P130
      clear hl hr
      omega
/-- The sixteen bytes of a number, the lowest first. -/
def dig (N : Int) : List Int := (List.range 16).map (fun k => N / 256 ^ k % 256)
theorem dig_length (N : Int) : (dig N).length = 16 := by simp [dig]
theorem rd_get (l : List Int) (k : Nat) (h : k < l.length) : rd l (k : Nat) = l[k] := by simp [rd, List.getD_eq_getElem?_getD, h]
theorem rd_far (l : List Int) (k : Nat) (h : l.length ≤ k) : rd l (k : Nat) = 0 := by simp [rd, List.getD_eq_getElem?_getD, h]
theorem rd_dig (N : Int) (k : Nat) (h : k < 16) : rd (dig N) (k : Nat) = N / 256 ^ k % 256 := by
  rw [rd_get _ _ (by rw [dig_length]; exact h)]
  simp [dig]
theorem rd_ext {a b : List Int} (n : Nat) (ha : a.length = n) (hb : b.length = n) (h : ∀ k : Nat, k < n → rd a k = rd b k) : a = b := by
  refine List.ext_getElem (by omega) fun k h1 h2 => ?_
  rw [← rd_get a k h1, ← rd_get b k h2]
  exact h k (by omega)
theorem rd_byte {b : List Int} (hb : Bytes b) (k : Nat) : 0 ≤ rd b k ∧ rd b k < 256 := by
  by_cases h : k < b.length
  · rw [rd_get _ _ h]
    have := hb _ (List.getElem_mem h)
    omega
  · rw [rd_far _ _ (by omega)]
    omega
theorem rd_set_far (l : List Int) (i j : Nat) (v : Int) (h : i ≠ j) : rd (l.set i v) j = rd l j := by
  simp [rd, List.getD_eq_getElem?_getD, h]
theorem bytN_rd (m : List Int) : ∀ n : Nat, n ≤ 16 → ∀ k : Nat, k < n → rd (bytN m n) k = bytV m k % 256
  | 0, _, k, h => absurd h (by omega)
  | n + 1, hn, k, h => by
    rw [bytN]
    by_cases hk : k = n
    · subst hk
      rw [rd_set _ _ _ (by rw [bytN_length]; omega)]
    · rw [rd_set_far _ _ _ _ (by omega)]
      exact bytN_rd m n (by omega) k (by omega)
theorem bytesW_eq (a b c d e : Int) (ha : 0 ≤ a ∧ a < 536870912) (hb : 0 ≤ b ∧ b < 536870912) (hc : 0 ≤ c ∧ c < 536870912) (hd : 0 ≤ d ∧ d < 536870912) (he : 0 ≤ e ∧ e < 536870912) : bytesW [a, b, c, d, e] = dig (V5 a b c d e) := by
  obtain ⟨a', b', c', d', e', h, ha', hb', hc', hd', he', hv⟩ := upN_eq a b c d e ha hb hc hd he
  unfold bytesW
  rw [h, ← hv]
  refine rd_ext 16 (bytN_length _ _) (dig_length _) fun k hk => ?_
  rw [bytN_rd _ 16 (by omega) k hk, rd_dig _ k hk, byt_eq a' b' c' d' e' ha' hb' hc' hd' he' k hk]
/-- Bytes with a number of bytes between 0 and 17 come to limbs that stand for their number. -/
theorem ofW_rep {b : List Int} (hb : Bytes b) (hl : b.length ≤ 16 ∨ b.length = 17 ∧ rd b ((16 : Nat) : Int) ≤ 3) : Rep (ofW b) (NK b b.length) := by
  obtain ⟨v0, v1, v2, v3, v4, h, h0, h1, h2, h3, h4, hv⟩ := ofN_eq b (fun k => rd_byte hb k) b.length hl
  exact ⟨v0, v1, v2, v3, v4, 0, h, by omega, by omega, by omega, by omega, by omega, by rw [hv]; simp⟩
/-- The number that the first k pieces come to. -/
def Hn (R : Int) (b : List Int) : Nat → Int
  | 0 => 0
  | k + 1 => (Hn R b k + NK (pieceL b k ++ [1]) (pieceL b k ++ [1]).length) * R
theorem pieceL_bytes {b : List Int} (hb : Bytes b) (k : Nat) : Bytes (pieceL b k ++ [1]) := by
  refine Bytes.append (fun x hx => hb x (List.mem_of_mem_take (List.mem_of_mem_drop hx))) (fun x hx => ?_)
  rw [List.mem_singleton] at hx
  subst hx
  decide
theorem pieceL_length (b : List Int) (k : Nat) : (pieceL b k).length = min (16 * k + 16) b.length - 16 * k := by
  rw [pieceL, List.length_drop, List.length_take]
theorem piece_rep {b : List Int} (hb : Bytes b) (k : Nat) : Rep (ofW (pieceL b k ++ [1])) (NK (pieceL b k ++ [1]) (pieceL b k ++ [1]).length) := by
  refine ofW_rep (pieceL_bytes hb k) ?_
  have h := pieceL_length b k
  by_cases h16 : (pieceL b k).length = 16
  · right
    constructor
    · rw [List.length_append, h16]; rfl
    · rw [rd_get _ _ (by rw [List.length_append, h16]; decide), List.getElem_append_right (by omega)]
      simp [h16]
  · left
    rw [List.length_append]
    simp only [List.length_cons, List.length_nil]
    omega
theorem accI_rep {r : List Int} {R : Int} (hr : Rep r R) {b : List Int} (hb : Bytes b) : ∀ k, Rep (accI r b k) (Hn R b k)
  | 0 => ⟨0, 0, 0, 0, 0, 0, rfl, by decide, by decide, by decide, by decide, by decide, by simp [V5, Hn]⟩
  | k + 1 => times_rep (plus_rep (accI_rep hr hb k) (piece_rep hb k)) hr
/-- The tag is the number's bytes. -/
theorem macP_eq {key b : List Int} (hk : Bytes key) (hkl : key.length = 32) (hb : Bytes b) (hc : Bytes (clampB key)) :
    macP key b = dig (Hn (NK (clampB key) 16) b ((b.length + 15) / 16) % P130 + NK (key.drop 16) 16) := by
  have hcl := clampB_length key (by omega)
  have hr := ofW_rep hc (by omega)
  rw [hcl] at hr
  obtain ⟨v0, v1, v2, v3, v4, hw, w0, w1, w2, w3, w4, hv⟩ := whole_eq (accI_rep hr hb ((b.length + 15) / 16))
  have hdl : (key.drop 16).length = 16 := by rw [List.length_drop]; omega
  have hdb : Bytes (key.drop 16) := fun x hx => hk x (List.mem_of_mem_drop hx)
  obtain ⟨u0, u1, u2, u3, u4, hu, x0, x1, x2, x3, x4, hv2⟩ := ofN_eq (key.drop 16) (fun k => rd_byte hdb k) 16 (by omega)
  unfold macP
  have hof : ofW (key.drop 16) = [u0, u1, u2, u3, u4] := by unfold ofW; rw [hdl, hu]
  rw [hw, hof, add5 v0 v1 v2 v3 v4 u0 u1 u2 u3 u4 (by omega) (by omega) (by omega) (by omega) (by omega) (by omega) (by omega) (by omega) (by omega) (by omega)]
  rw [bytesW_eq _ _ _ _ _ (by omega) (by omega) (by omega) (by omega) (by omega), ← hv, ← hv2]
  exact congrArg dig (by unfold V5; omega)
end Go.Proofs.Ytllaobhheokafaa.F
