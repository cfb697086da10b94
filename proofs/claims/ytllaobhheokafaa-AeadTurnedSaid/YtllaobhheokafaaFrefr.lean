/- Plain facts on the slow reference of Poly1305: what is left by the prime; the whole tag. No program in sight; each fact under the conditions that it states. -/
import Derived.Test.YtllaobhheokafaaFrefa
import Derived.Test.YtllaobhheokafaaFrefm
import Derived.Test.YtllaobhheokafaaFreft
namespace Go.Proofs.Ytllaobhheokafaa.F
open Go.RowKit Go.Proofs.Ytllaobhheokafaa.Q Go.Proofs.YtllaobhheokafaaW.PrintWords Go.Proofs.YtllaobhheokafaaW.PrintLast Go.Proofs.YtllaobhheokafaaW.PrintMore
set_option linter.unusedVariables false
set_option linter.unusedSimpArgs false
def primeL : List Int := 251 :: (List.replicate 15 255 ++ [3])
theorem prime_ev : Ev (fun k => casketref16_prime.f k) primeL := by
  unfold casketref16_prime.f
  refine Ev.of (k := 17) (fun k => ?_) (by kernel_rfl)
  exact casketref16_prime.mono k
theorem prime_val : val primeL = P130 := by decide
theorem prime_trim : Trim primeL := Or.inr (by decide)
theorem prime_bytes : Bytes primeL := by
  have : ∀ x ∈ primeL, 0 ≤ x ∧ x < 256 := by decide
  exact this
theorem p130 : (256 : Int) ^ 16 * 4 = P130 + 5 := by decide
/-- Its last steps: what is below 2^130 comes below the prime. -/
theorem last_ev (a : List Int) (ha : Bytes a) (ht : Trim a) (hl : a.length ≤ 17) (hv : val a < P130 + 5) : ∃ c, Ev (fun k => casketref16_rest.j1 k a false) c ∧ Bytes c ∧ c.length ≤ 17 ∧ val c = val a % P130 := by
  have hb := val_bd ha
  have hless := less_ev a primeL ha prime_bytes ht prime_trim (by omega) (by decide)
  rw [prime_val] at hless
  by_cases h : val a < P130
  · refine ⟨a, ?_, ha, hl, (Int.emod_eq_of_lt hb.1 h).symm⟩
    rw [decide_eq_true h] at hless
    refine Ev.step (f := fun k => (casketref16_prime.f k).bind fun t421 => ((casketref16_less.f k a t421).bind fun t424 => (if t424 = true then (some a) else ((casketref16_prime.f k).bind fun t425 => ((casketref16_sub.f k a t425).bind fun t428 => (some t428)))))) (fun k => by simp only [casketref16_rest.j1]; rfl) ?_
    refine Ev.bind prime_ev (Ev.bind hless ?_)
    exact Ev.now _
  · have hlp : primeL.length ≤ a.length := by
      rcases Nat.lt_or_ge a.length primeL.length with h1 | h1
      · exfalso
        have h2 : a.length ≤ 16 := by have : primeL.length = 17 := rfl; omega
        have h3 := pow_mono h2
        have h4 : (256 : Int) ^ 16 < P130 := by decide
        omega
      · exact h1
    obtain ⟨c, hc, h1, h2, h3, h4⟩ := sub_ev a primeL ha prime_bytes (by rw [prime_val]; omega) hlp (by omega)
    rw [prime_val] at h3
    refine ⟨c, ?_, h1, by omega, ?_⟩
    · rw [decide_eq_false h] at hless
      refine Ev.step (f := fun k => (casketref16_prime.f k).bind fun t421 => ((casketref16_less.f k a t421).bind fun t424 => (if t424 = true then (some a) else ((casketref16_prime.f k).bind fun t425 => ((casketref16_sub.f k a t425).bind fun t428 => (some t428)))))) (fun k => by simp only [casketref16_rest.j1]; rfl) ?_
      refine Ev.bind prime_ev (Ev.bind hless ?_)
      exact Ev.bind prime_ev (Ev.bind hc (Ev.now _))
    · rw [h3]
      unfold P130 at *
      omega
theorem alg (V L N A B q P M : Int) (hv : V * (4 * P) + L = N + (A - 4 * q) * (P * M)) : (V + (q + B * 64) * M) * (4 * P) + L = N + A * (P * M) + B * (P * M * 256) := by grind
/-- What is above 2^130 comes in below, five times. -/
theorem high_ev (a low : List Int) (ha : Bytes a) (hl : a.length ≤ 1000) (h16 : 17 ≤ a.length) (hlow : low = a.take 16 ++ [rd a 16 % 4]) :
    (∀ c, Bytes c → Trim c → c.length ≤ max 18 a.length → (∃ h : Int, 0 ≤ h ∧ val a = 340282366920938463463374607431768211456 * 4 * h + val low ∧ val c = val low + h * 5) → ∃ r, Ev (fun k => casketref16_rest.l0 k c) r ∧ Bytes r ∧ r.length ≤ 17 ∧ val r = val a % P130) →
    ∃ r, Ev (fun k => casketref16_rest.l1 k a low [] 16) r ∧ Bytes r ∧ r.length ≤ 17 ∧ val r = val a % P130 := by
  intro go
  have h16b := rd_byte ha 16
  have hlb : Bytes low := by
    rw [hlow]
    exact (ha.take 16).snoc (show 0 ≤ rd a 16 % 4 ∧ rd a 16 % 4 < 256 by omega)
  have hll : low.length = 17 := by rw [hlow, List.length_append, List.length_take]; simp only [List.length_cons, List.length_nil]; omega
  have hlv : val low = NK a 16 + rd a ((16 : Nat) : Int) % 4 * 256 ^ 16 := by
    rw [hlow, val_snoc, List.length_take, show min 16 a.length = 16 by omega]
    congr 1
    rw [val, List.length_take, show min 16 a.length = 16 by omega]
    exact NK_congr _ _ 16 (fun k hk => rd_take _ _ _ hk)
  have key : ∀ (d m : Nat) (h : List Int), a.length - (16 + m) = d → 16 + m ≤ a.length → h.length = m → Bytes h → Aside0 (val h * (4 * 256 ^ 16) + val low = NK a (16 + m) + rd a ((16 + m : Nat) : Int) % 4 * 256 ^ (16 + m)) →
      ∃ r, Ev (fun k => casketref16_rest.l1 k a low h ((16 + m : Nat) : Int)) r ∧ Bytes r ∧ r.length ≤ 17 ∧ val r = val a % P130 := by
    intro d
    induction d with
    | zero =>
      intro m h hd hm hhl hhB hv
      have em : 16 + m = a.length := by omega
      have B5 : Bytes [5] := fun x hx => by rw [List.mem_singleton] at hx; subst hx; decide
      obtain ⟨t, ht, t1, t2, t3⟩ := mul_ev h [5] hhB B5 (by omega) (by decide)
      rw [show val [5] = 5 by decide] at t3
      obtain ⟨u, hu, u1, u2, u3⟩ := add_ev low t hlb t1 (by omega) (by rw [t2, hhl]; simp only [List.length_cons, List.length_nil]; omega)
      have hul : u.length ≤ max 18 a.length := by rw [t2, hll, hhl] at u2; simp only [List.length_cons, List.length_nil] at u2; omega
      obtain ⟨c, hc, c1, c2, c3, c4⟩ := trim_ev u.length u rfl u1 (by omega)
      have hv := hv.out
      rw [em, rd_far a a.length (Nat.le_refl _), Int.zero_emod, Int.zero_mul, Int.add_zero] at hv
      obtain ⟨r, hr, p⟩ := go c c1 c4 (by omega) ⟨val h, (val_bd hhB).1, by rw [val, ← hv, p16]; omega, by rw [c3, u3, t3]⟩
      refine ⟨r, Ev.step (f := fun k => ((casketref16_mul.f k h [5]).bind fun t412 => ((casketref16_add.f k low t412).bind fun t415 => ((casketref16_trim.f k t415).bind fun t418 => (casketref16_rest.l0 k t418))))) (fun k => ?_) (Ev.bind ht (Ev.bind hu (Ev.bind hc hr))), p⟩
      simp only [casketref16_rest.l1]
      rw [if_neg (by omega)]
    | succ d ih =>
      intro m h hd hm hhl hhB hv
      have hx := rd_byte ha (16 + m)
      have hy := rd_byte ha (16 + m + 1)
      have fa : ¬(((16 + m + 1 : Nat) : Int) < a.length) → rd a ((16 + m + 1 : Nat) : Int) = 0 := fun h => rd_far _ _ (by omega)
      obtain ⟨v, hvv⟩ : ∃ v, v = rd a ((16 + m : Nat) : Int) / 4 + rd a ((16 + m + 1 : Nat) : Int) % 4 * 64 := ⟨_, rfl⟩
      have B2 : Bytes (h ++ [v]) := hhB.snoc (by omega)
      have e3 := Aside0.mk (show wrap64 (((16 + m : Nat) : Int) + 1) = ((16 + m + 1 : Nat) : Int) by rw [w64 (by omega) (by omega)]; rfl)
      have hv2 : val (h ++ [v]) * (4 * 256 ^ 16) + val low = NK a (16 + (m + 1)) + rd a ((16 + (m + 1) : Nat) : Int) % 4 * 256 ^ (16 + (m + 1)) := by
        have hv := hv.out
        have q1 : rd a ((16 + m : Nat) : Int) % 4 = rd a ((16 + m : Nat) : Int) - 4 * (rd a ((16 + m : Nat) : Int) / 4) := by omega
        rw [q1] at hv
        rw [show (256 : Int) ^ (16 + m) = 256 ^ 16 * 256 ^ m from Int.pow_add _ _ _] at hv
        rw [val_snoc, hhl, ← Nat.add_assoc, NK, hvv, show (256 : Int) ^ (16 + m + 1) = 256 ^ 16 * 256 ^ m * 256 by rw [Int.pow_succ, Int.pow_add], show (256 : Int) ^ (16 + m) = 256 ^ 16 * 256 ^ m from Int.pow_add _ _ _]
        exact alg _ _ _ _ _ _ _ _ hv
      obtain ⟨r, hr, p⟩ := ih (m + 1) (h ++ [v]) (by omega) (by omega) (by rw [List.length_append, hhl]; rfl) B2 ⟨hv2⟩
      refine ⟨r, Ev.step (f := fun k => casketref16_rest.l1 k a low (h ++ [v]) ((16 + (m + 1) : Nat) : Int)) (fun k => ?_) hr, p⟩
      simp only [casketref16_rest.l1]
      rw [if_pos (by omega), if_pos (by omega), e3.out, Int.tdiv_eq_ediv_of_nonneg (by omega), w64 (n := rd a ((16 + m : Nat) : Int) / 4) (by omega) (by omega)]
      by_cases h2 : ((16 + m + 1 : Nat) : Int) < a.length
      · rw [if_pos h2, if_pos (by omega), if_pos (by omega), Int.tmod_eq_emod_of_nonneg (by omega), w64 (n := rd a ((16 + m + 1 : Nat) : Int) % 4 * 64) (by omega) (by omega), ← hvv, w64 (n := v) (by omega) (by omega)]
        rfl
      · have hz := fa h2
        rw [hz] at hvv
        rw [if_neg h2, if_pos (by omega), show rd a ((16 + m : Nat) : Int) / 4 = v by omega]
        rfl
  exact key _ 0 [] rfl (by omega) rfl Bytes.nil ⟨by rw [hlv]; show 0 * _ + _ = _; rw [Int.zero_mul, Int.zero_add]⟩
theorem rest0_ev (L : Nat) (hL : 18 ≤ L ∧ L ≤ 1000) : ∀ (n : Nat) (a : List Int), (val a).toNat = n → Bytes a → Trim a → a.length ≤ L → ∃ c, Ev (fun k => casketref16_rest.l0 k a) c ∧ Bytes c ∧ c.length ≤ 17 ∧ val c = val a % P130 := by
  intro n
  induction n using Nat.strongRecOn with
  | ind n ih =>
    intro a hn hB hT hl
    have hb := val_bd hB
    have step : 17 ≤ a.length → P130 + 5 ≤ val a → ∃ c, Ev (fun k => casketref16_rest.j1 k a true) c ∧ Bytes c ∧ c.length ≤ 17 ∧ val c = val a % P130 := by
      intro h17 hbig
      have h16b := rd_byte hB 16
      have e16 : rd a 16 = rd a ((16 : Nat) : Int) := rfl
      obtain ⟨r, hr, p⟩ := high_ev a (a.take 16 ++ [rd a 16 % 4]) hB (by omega) h17 rfl (fun c c1 c2 c3 ⟨h, h1, h2, h3⟩ => by
        have hlb : Bytes (a.take 16 ++ [rd a 16 % 4]) := (hB.take 16).snoc (by omega)
        have hlo := (val_bd hlb).1
        have hhi : val (a.take 16 ++ [rd a 16 % 4]) < 340282366920938463463374607431768211456 * 4 := by
          have hll : (a.take 16).length = 16 := by rw [List.length_take]; omega
          rw [val_snoc, hll, p16]
          have := (val_bd (hB.take 16)).2
          rw [hll, p16] at this
          omega
        have hpos : 1 ≤ h := by
          rcases Int.lt_or_le 0 h with h7 | h7
          · omega
          · obtain rfl : h = 0 := by omega
            unfold P130 at hbig
            omega
        have hlt : val c < val a := by omega
        have hcb := (val_bd c1).1
        obtain ⟨r, hr, p1, p2, p3⟩ := ih (val c).toNat (by omega) c rfl c1 c2 (by omega)
        refine ⟨r, hr, p1, p2, ?_⟩
        rw [p3]
        unfold P130
        omega)
      refine ⟨r, Ev.step (f := fun k => casketref16_rest.l1 k a (a.take 16 ++ [rd a 16 % 4]) [] 16) (fun k => ?_) hr, p⟩
      simp only [casketref16_rest.j1]
      rw [if_pos trivial]
      simp only [Option.bind_some, List.nil_append]
      rw [if_pos (by omega), if_pos (by rw [List.length_take]; show 0 + _ < _; omega), if_pos (by omega), if_pos (by rw [List.length_take]; omega), Int.tmod_eq_emod_of_nonneg (by omega)]
    by_cases h1 : (a.length : Int) > 17
    · have hbig : P130 + 5 ≤ val a := by
        have h2 := trim_lo hB hT (n := a.length - 1) (by omega)
        have h3 := pow_mono (show 17 ≤ a.length - 1 by omega)
        have h4 : P130 + 5 ≤ (256 : Int) ^ 17 := by decide
        omega
      obtain ⟨c, hc, p⟩ := step (by omega) hbig
      refine ⟨c, Ev.step (f := fun k => casketref16_rest.j1 k a true) (fun k => ?_) hc, p⟩
      simp only [casketref16_rest.l0]
      rw [if_pos h1]
    · by_cases h2 : (a.length : Int) = 17
      · have h16b := rd_byte hB 16
        have e16 : rd a 16 = rd a ((16 : Nat) : Int) := rfl
        have hva := val_last (l := a) (n := 16) (by omega)
        have hlo := NK_bd a (rd_byte hB) 16
        rw [p16] at hva hlo
        by_cases h3 : rd a 16 ≥ 4
        · obtain ⟨c, hc, p⟩ := step (by omega) (by unfold P130; omega)
          refine ⟨c, Ev.step (f := fun k => casketref16_rest.j1 k a true) (fun k => ?_) hc, p⟩
          simp only [casketref16_rest.l0]
          rw [if_neg h1, if_pos h2, if_pos (by omega), decide_eq_true h3]
        · obtain ⟨c, hc, p⟩ := last_ev a hB hT (by omega) (by unfold P130; omega)
          refine ⟨c, Ev.step (f := fun k => casketref16_rest.j1 k a false) (fun k => ?_) hc, p⟩
          simp only [casketref16_rest.l0]
          rw [if_neg h1, if_pos h2, if_pos (by omega), decide_eq_false h3]
      · have h3 := pow_mono (show a.length ≤ 16 by omega)
        have h4 : (256 : Int) ^ 16 ≤ P130 + 5 := by decide
        obtain ⟨c, hc, p⟩ := last_ev a hB hT (by omega) (by omega)
        refine ⟨c, Ev.step (f := fun k => casketref16_rest.j1 k a false) (fun k => ?_) hc, p⟩
        simp only [casketref16_rest.l0]
        rw [if_neg h1, if_neg h2]
theorem rest_ev (a : List Int) (hB : Bytes a) (hl : a.length ≤ 1000) : ∃ c, Ev (fun k => casketref16_rest.f k a) c ∧ Bytes c ∧ c.length ≤ 17 ∧ val c = val a % P130 := by
  obtain ⟨t, ht, t1, t2, t3, t4⟩ := trim_ev a.length a rfl hB (by omega)
  obtain ⟨c, hc, c1, c2, c3⟩ := rest0_ev 1000 (by omega) _ t rfl t1 t4 (by omega)
  exact ⟨c, Ev.bind ht hc, c1, c2, by rw [c3, t3]⟩
end Go.Proofs.Ytllaobhheokafaa.F
