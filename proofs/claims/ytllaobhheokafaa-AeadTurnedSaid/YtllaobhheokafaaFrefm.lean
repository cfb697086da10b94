/- Plain facts on the slow reference of Poly1305: numbers as digits of one byte. No program in sight; each fact under the conditions that it states. -/
import Derived.Test.YtllaobhheokafaaFref
import Derived.Test.YtllaobhheokafaaDref16
namespace Go.Proofs.Ytllaobhheokafaa.F
open Go.RowKit Go.Proofs.Ytllaobhheokafaa.Q Go.Proofs.YtllaobhheokafaaW.PrintWords Go.Proofs.YtllaobhheokafaaW.PrintLast Go.Proofs.YtllaobhheokafaaW.PrintMore
set_option linter.unusedVariables false
set_option linter.unusedSimpArgs false
set_option maxHeartbeats 2000000 in
theorem mul_ev (a b : List Int) (ha : Bytes a) (hb : Bytes b) (hla : a.length ≤ 100000) (hlb : b.length ≤ 100000) : ∃ c, Ev (fun k => casketref16_mul.f k a b) c ∧ Bytes c ∧ c.length = a.length + b.length + 1 ∧ val c = val a * val b := by
  unfold casketref16_mul.f
  have e0 := Aside0.mk (show wrap64 (wrap64 ((a.length : Int) + (b.length : Int)) + 1) = ((a.length + b.length + 1 : Nat) : Int) by
    rw [w64 (n := (a.length : Int) + (b.length : Int)) (by omega) (by omega), w64 (by omega) (by omega)]
    rfl)
  simp only [e0.out, Int.toNat_natCast]
  have c1 : (0 : Int) ≤ ((a.length + b.length + 1 : Nat) : Int) := by omega
  have c2 : a.length + b.length + 1 ≤ 35184372088832 := by omega
  simp only [if_pos c1, if_pos c2]
  have hbv := Aside0.mk (val_bd hb)
  -- the inner rounds
  have inner : ∀ (i : Nat), i < a.length → ∀ (d j : Nat) (out : List Int) (c : Int), b.length + 1 - j = d → j ≤ b.length + 1 → Bytes out → out.length = a.length + b.length + 1 → (0 ≤ c ∧ c ≤ 255) → (j = b.length + 1 → c = 0) →
      val out + c * 256 ^ (i + j) = NK a i * val b + rd a (i : Nat) * NK b j * 256 ^ i →
      (∀ out', Bytes out' → out'.length = a.length + b.length + 1 → val out' = NK a (i + 1) * val b → ∃ r, Ev (fun k => casketref16_mul.l0 k a b out' ((i + 1 : Nat) : Int)) r ∧ Bytes r ∧ r.length = a.length + b.length + 1 ∧ val r = val a * val b) →
      ∃ r, Ev (fun k => casketref16_mul.l1 k a b out (i : Nat) c (j : Nat)) r ∧ Bytes r ∧ r.length = a.length + b.length + 1 ∧ val r = val a * val b := by
    intro i hi
    have hx := rd_byte ha i
    have stop : ∀ (j : Nat) (out : List Int) (c : Int), Bytes out → out.length = a.length + b.length + 1 → c = 0 → b.length ≤ j → val out + c * 256 ^ (i + j) = NK a i * val b + rd a (i : Nat) * NK b j * 256 ^ i →
        (∀ out', Bytes out' → out'.length = a.length + b.length + 1 → val out' = NK a (i + 1) * val b → ∃ r, Ev (fun k => casketref16_mul.l0 k a b out' ((i + 1 : Nat) : Int)) r ∧ Bytes r ∧ r.length = a.length + b.length + 1 ∧ val r = val a * val b) →
        (j : Int) ≤ 200000 → ∃ r, Ev (fun k => casketref16_mul.l1 k a b out (i : Nat) c (j : Nat)) r ∧ Bytes r ∧ r.length = a.length + b.length + 1 ∧ val r = val a * val b := by
      intro j out c hB hl hc hj hv go hj2
      subst hc
      obtain ⟨r, hr, p⟩ := go out hB hl (by rw [NK_val b j hj] at hv; rw [NK]; clear hbv go; grind)
      clear hv
      refine ⟨r, Ev.step (f := fun k => casketref16_mul.j2 k a b out (i : Nat) 0 (j : Nat) false) (fun k => ?_) (Ev.step (f := fun k => casketref16_mul.l0 k a b out ((i + 1 : Nat) : Int)) (fun k => ?_) hr), p⟩
      · simp only [casketref16_mul.l1]
        rw [if_neg (by omega)]
        rfl
      · simp only [casketref16_mul.j2]
        rw [w64 (n := (i : Int) + 1) (by omega) (by omega)]
        rfl
    intro d
    induction d with
    | zero =>
      intro j out c hd hj hB hl hc hc0 hv go
      exact stop j out c hB hl (hc0 (by omega)) (by omega) hv go (by omega)
    | succ d ih =>
      intro j out c hd hj hB hl hc hc0 hv go
      replace hv := Aside0.mk hv
      have hy := rd_byte hb j
      have fb : ¬(j : Int) < b.length → rd b (j : Nat) = 0 := fun h => rd_far _ _ (by omega)
      by_cases hgo : (j : Int) < b.length ∨ c > 0
      · have hle : j ≤ b.length := by
          rcases Nat.lt_or_ge b.length j with h | h
          · have := hc0 (by omega)
            omega
          · exact h
        have ho := rd_byte hB (i + j)
        obtain ⟨m, hm⟩ : ∃ m, m = rd a (i : Nat) * rd b (j : Nat) := ⟨_, rfl⟩
        have hmb : 0 ≤ m ∧ m ≤ 65025 := by
          have h1 := Int.mul_nonneg hx.1 hy.1
          have h2 := Int.mul_le_mul (show rd a (i : Nat) ≤ 255 by omega) (show rd b (j : Nat) ≤ 255 by omega) hy.1 (by decide)
          omega
        obtain ⟨v, hvv⟩ : ∃ v, v = rd out ((i + j : Nat) : Int) + c + m := ⟨_, rfl⟩
        have B2 : Bytes (out.set (i + j) (v % 256)) := hB.set _ (by omega)
        have e1 := Aside0.mk (show wrap64 ((i : Int) + (j : Int)) = ((i + j : Nat) : Int) by rw [w64 (by omega) (by omega)]; rfl)
        have e3 := Aside0.mk (show wrap64 ((j : Int) + 1) = ((j + 1 : Nat) : Int) by rw [w64 (by omega) (by omega)]; rfl)
        have r0 : ∀ k, casketref16_mul.l1 (k + 1) a b out (i : Nat) c (j : Nat) = casketref16_mul.j2 k a b out (i : Nat) c (j : Nat) true := by
          intro k
          simp only [casketref16_mul.l1]
          by_cases h2 : (j : Int) < b.length
          · rw [if_pos h2]
          · rw [if_neg h2, decide_eq_true (by omega)]
        have r1 : ∀ k, casketref16_mul.j2 (k + 1) a b out (i : Nat) c (j : Nat) true = casketref16_mul.l1 k a b (out.set (i + j) (v % 256)) (i : Nat) (v / 256) ((j + 1 : Nat) : Int) := by
          intro k
          simp only [casketref16_mul.j2]
          rw [if_pos trivial, e1.out, if_pos (by omega), if_pos (by omega), Int.toNat_natCast]
          by_cases h2 : (j : Int) < b.length
          · rw [if_pos h2, if_pos (by omega), if_pos (by omega), if_pos (by omega), ← hm, w64 (n := rd out ((i + j : Nat) : Int) + c) (by omega) (by omega), w64 (n := m) (by omega) (by omega), w64 (n := rd out ((i + j : Nat) : Int) + c + m) (by omega) (by omega), ← hvv, Int.tmod_eq_emod_of_nonneg (by omega), Int.tdiv_eq_ediv_of_nonneg (by omega), w64 (n := v / 256) (by omega) (by omega), e3.out]
          · have hz := fb h2
            rw [hz, Int.mul_zero] at hm
            rw [if_neg h2, w64 (n := rd out ((i + j : Nat) : Int) + c) (by omega) (by omega), show rd out ((i + j : Nat) : Int) + c = v by omega, Int.tmod_eq_emod_of_nonneg (by omega), Int.tdiv_eq_ediv_of_nonneg (by omega), w64 (n := v / 256) (by omega) (by omega), e3.out]
        have hv2 : val (out.set (i + j) (v % 256)) + v / 256 * 256 ^ (i + (j + 1)) = NK a i * val b + rd a (i : Nat) * NK b (j + 1) * 256 ^ i := by
          rw [val_set _ _ (by omega), NK, ← Nat.add_assoc, Int.pow_succ, Int.mul_add, Int.add_mul, show rd a (i : Nat) * (rd b (j : Nat) * 256 ^ j) * 256 ^ i = m * 256 ^ (i + j) by rw [hm, Int.pow_add]; grind]
          have e3 : v % 256 = v - 256 * (v / 256) := by omega
          obtain ⟨q, hq⟩ : ∃ q, q = v / 256 := ⟨_, rfl⟩
          have hv := hv.out
          rw [e3, ← hq, hvv]
          clear hvv fb r0 r1 ih stop hgo go hbv
          grind
        replace hv2 := Aside0.mk hv2
        have hz : j + 1 = b.length + 1 → v / 256 = 0 := by
          intro h
          have hj' : j = b.length := by omega
          have hv2 := hv2.out
          have h6 : 0 ≤ v / 256 := by omega
          have h1 := val_bd B2
          have h2 := NK_bd a (rd_byte ha) (i + 1)
          have h3 := mul_lt' h2.1 h2.2 hbv.out.1 hbv.out.2
          rw [← Int.pow_add] at h3
          have h4 : NK a i * val b + rd a (i : Nat) * NK b (j + 1) * 256 ^ i = NK a (i + 1) * val b := by
            rw [NK_val b (j + 1) (by omega), NK]
            clear hv hv2 hbv h1 h2 h3 r0 r1 go ih stop hvv hm hmb
            grind
          rw [h4, show i + (j + 1) = i + 1 + b.length by omega] at hv2
          have h5 := pow_pos' (i + 1 + b.length)
          rcases Int.lt_or_le 0 (v / 256) with h7 | h7
          · exfalso
            have := Int.mul_le_mul_of_nonneg_right (show 1 ≤ v / 256 by omega) (Int.le_of_lt h5)
            rw [Int.one_mul] at this
            omega
          · omega
        obtain ⟨r, hr, p⟩ := ih (j + 1) (out.set (i + j) (v % 256)) (v / 256) (by omega) (by omega) B2 (by rw [List.length_set, hl]) (by omega) hz hv2.out go
        exact ⟨r, Ev.step r0 (Ev.step r1 hr), p⟩
      · exact stop j out c hB hl (by omega) (by omega) hv.out go (by omega)
  have outer : ∀ (d i : Nat) (out : List Int), a.length - i = d → i ≤ a.length → Bytes out → out.length = a.length + b.length + 1 → val out = NK a i * val b → ∃ r, Ev (fun k => casketref16_mul.l0 k a b out (i : Nat)) r ∧ Bytes r ∧ r.length = a.length + b.length + 1 ∧ val r = val a * val b := by
    intro d
    induction d with
    | zero =>
      intro i out hd hi hB hl hv
      refine ⟨out, Ev.step (f := fun _ => some out) (fun k => ?_) (Ev.now _), hB, hl, ?_⟩
      · simp only [casketref16_mul.l0]
        rw [if_neg (by omega)]
      · rw [hv, NK_val a i (by omega)]
    | succ d ih =>
      intro i out hd hi hB hl hv
      obtain ⟨r, hr, p⟩ := inner i (by omega) (b.length + 1) 0 out 0 rfl (by omega) hB hl (by decide) (fun _ => rfl) (by rw [hv, NK]; simp) (fun out' hB' hl' hv' => ih (i + 1) out' (by omega) (by omega) hB' hl' hv')
      refine ⟨r, Ev.step (f := fun k => casketref16_mul.l1 k a b out (i : Nat) 0 0) (fun k => ?_) hr, p⟩
      simp only [casketref16_mul.l0]
      rw [if_pos (by omega)]
  refine outer _ 0 _ rfl (by omega) (fun x hx => by rw [List.eq_of_mem_replicate hx]; decide) (List.length_replicate) ?_
  rw [NK, Int.zero_mul]
  have : ∀ n, val (List.replicate n 0) = 0 := by
    intro n
    induction n with
    | zero => rfl
    | succ n ih => rw [List.replicate_succ', val_snoc, ih]; simp
  exact this _
end Go.Proofs.Ytllaobhheokafaa.F
