/- Plain facts on the slow reference of Poly1305: numbers as digits of one byte. No program in sight; each fact under the conditions that it states. -/
import Derived.Test.YtllaobhheokafaaFref
import Derived.Test.YtllaobhheokafaaDref16
namespace Go.Proofs.Ytllaobhheokafaa.F
open Go.RowKit Go.Proofs.Ytllaobhheokafaa.Q Go.Proofs.YtllaobhheokafaaW.PrintWords Go.Proofs.YtllaobhheokafaaW.PrintLast Go.Proofs.YtllaobhheokafaaW.PrintMore
set_option linter.unusedVariables false
set_option linter.unusedSimpArgs false
set_option maxHeartbeats 2000000 in
theorem add_ev (a b : List Int) (ha : Bytes a) (hb : Bytes b) (hla : a.length ≤ 100000) (hlb : b.length ≤ 100000) : ∃ c, Ev (fun k => casketref16_add.f k a b) c ∧ Bytes c ∧ c.length ≤ max a.length b.length + 1 ∧ val c = val a + val b := by
  unfold casketref16_add.f
  have key : ∀ (d i : Nat) (out : List Int) (c : Int), max a.length b.length + 1 - i = d → i ≤ max a.length b.length + 1 → out.length = i → Bytes out → (0 ≤ c ∧ c ≤ 1) → (i = max a.length b.length + 1 → c = 0) → val out + c * 256 ^ i = NK a i + NK b i →
      ∃ r, Ev (fun k => casketref16_add.l0 k a b out c (i : Nat)) r ∧ Bytes r ∧ r.length ≤ max a.length b.length + 1 ∧ val r = val a + val b := by
    have stop : ∀ (i : Nat) (out : List Int) (c : Int), i ≤ max a.length b.length + 1 → out.length = i → Bytes out → c = 0 → a.length ≤ i → b.length ≤ i → val out + c * 256 ^ i = NK a i + NK b i → ∃ r, Ev (fun k => casketref16_add.l0 k a b out c (i : Nat)) r ∧ Bytes r ∧ r.length ≤ max a.length b.length + 1 ∧ val r = val a + val b := by
      intro i out c hi hl hB hc h1 h2 hv
      subst hc
      replace hv := Aside0.mk hv
      refine ⟨out, Ev.step (f := fun k => casketref16_add.j1 k a b out 0 (i : Nat) false) (fun k => ?_) (Ev.step (f := fun _ => some out) (fun k => ?_) (Ev.now _)), hB, by omega, ?_⟩
      · simp only [casketref16_add.l0]
        rw [if_neg (by omega), if_neg (by omega)]
        rfl
      · simp only [casketref16_add.j1]
        rfl
      · have hv := hv.out
        rw [NK_val a i h1, NK_val b i h2] at hv
        omega
    intro d
    induction d with
    | zero =>
      intro i out c hd hi hl hB hc hc0 hv
      exact stop i out c hi hl hB (hc0 (by omega)) (by omega) (by omega) hv
    | succ d ih =>
      intro i out c hd hi hl hB hc hc0 hv
      replace hv := Aside0.mk hv
      have hx := rd_byte ha i
      have hy := rd_byte hb i
      by_cases hgo : (i : Int) < a.length ∨ (i : Int) < b.length ∨ c > 0
      · obtain ⟨v, hvv⟩ : ∃ v, v = c + rd a (i : Nat) + rd b (i : Nat) := ⟨_, rfl⟩
        have fa : ¬(i : Int) < a.length → rd a (i : Nat) = 0 := fun h => rd_far _ _ (by omega)
        have fb : ¬(i : Int) < b.length → rd b (i : Nat) = 0 := fun h => rd_far _ _ (by omega)
        have B2 : Bytes (out ++ [v % 256]) := hB.snoc (by omega)
        have r0 : ∀ k, casketref16_add.l0 (k + 1) a b out c (i : Nat) = casketref16_add.j1 k a b out c (i : Nat) true := by
          intro k
          simp only [casketref16_add.l0]
          by_cases h1 : (i : Int) < a.length
          · rw [if_pos h1]
          · rw [if_neg h1]
            by_cases h2 : (i : Int) < b.length
            · rw [if_pos h2]
            · rw [if_neg h2, decide_eq_true (by omega)]
        have r1 : ∀ k, casketref16_add.j1 (k + 1) a b out c (i : Nat) true = casketref16_add.l0 k a b (out ++ [v % 256]) (v / 256) ((i + 1 : Nat) : Int) := by
          intro k
          simp only [casketref16_add.j1]
          rw [if_pos trivial]
          have e3 := Aside0.mk (show wrap64 ((i : Int) + 1) = ((i + 1 : Nat) : Int) by rw [w64 (by omega) (by omega)]; rfl)
          by_cases h1 : (i : Int) < a.length
          · rw [if_pos h1, if_pos (by omega)]
            by_cases h2 : (i : Int) < b.length
            · rw [if_pos h2, if_pos (by omega), w64 (n := c + rd a (i : Nat)) (by omega) (by omega), w64 (n := c + rd a (i : Nat) + rd b (i : Nat)) (by omega) (by omega), ← hvv, Int.tmod_eq_emod_of_nonneg (by omega), Int.tdiv_eq_ediv_of_nonneg (by omega), w64 (n := v / 256) (by omega) (by omega), e3.out]
            · have := fb h2
              rw [if_neg h2, if_pos (by omega), w64 (n := c + rd a (i : Nat)) (by omega) (by omega), show c + rd a (i : Nat) = v by omega, Int.tmod_eq_emod_of_nonneg (by omega), Int.tdiv_eq_ediv_of_nonneg (by omega), w64 (n := v / 256) (by omega) (by omega), e3.out]
          · have := fa h1
            rw [if_neg h1]
            by_cases h2 : (i : Int) < b.length
            · rw [if_pos h2, if_pos (by omega), if_pos (by omega), w64 (n := c + rd b (i : Nat)) (by omega) (by omega), show c + rd b (i : Nat) = v by omega, Int.tmod_eq_emod_of_nonneg (by omega), Int.tdiv_eq_ediv_of_nonneg (by omega), w64 (n := v / 256) (by omega) (by omega), e3.out]
            · have := fb h2
              rw [if_neg h2, if_pos (by omega), show c = v by omega, Int.tmod_eq_emod_of_nonneg (by omega), Int.tdiv_eq_ediv_of_nonneg (by omega), w64 (n := v / 256) (by omega) (by omega), e3.out]
        have hle : i ≤ max a.length b.length := by
          rcases Nat.lt_or_ge (max a.length b.length) i with h | h
          · have := hc0 (by omega)
            omega
          · exact h
        have hv2 : val (out ++ [v % 256]) + v / 256 * 256 ^ (i + 1) = NK a (i + 1) + NK b (i + 1) := by
          rw [val_snoc, hl, NK, NK, Int.pow_succ]
          have e3 : v % 256 = v - 256 * (v / 256) := by omega
          obtain ⟨q, hq⟩ : ∃ q, q = v / 256 := ⟨_, rfl⟩
          have hv := hv.out
          rw [e3, ← hq, hvv]
          clear hvv fa fb r0 r1 ih stop hgo
          grind
        obtain ⟨r, hr, p⟩ := ih (i + 1) (out ++ [v % 256]) (v / 256) (by omega) (by omega) (by rw [List.length_append, hl]; rfl) B2 (by omega) (fun h => by have := fa (by omega); have := fb (by omega); omega) hv2
        exact ⟨r, Ev.step r0 (Ev.step r1 hr), p⟩
      · exact stop i out c hi hl hB (by omega) (by omega) (by omega) hv.out
  exact key _ 0 [] 0 rfl (by omega) rfl Bytes.nil (by decide) (fun _ => rfl) (by simp [NK, val])
end Go.Proofs.Ytllaobhheokafaa.F
