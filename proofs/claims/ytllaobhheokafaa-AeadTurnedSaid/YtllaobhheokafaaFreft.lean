/- Plain facts on the slow reference of Poly1305: numbers as digits of one byte. No program in sight; each fact under the conditions that it states. -/
import Derived.Test.YtllaobhheokafaaFref
import Derived.Test.YtllaobhheokafaaDref16
namespace Go.Proofs.Ytllaobhheokafaa.F
open Go.RowKit Go.Proofs.Ytllaobhheokafaa.Q Go.Proofs.YtllaobhheokafaaW.PrintWords Go.Proofs.YtllaobhheokafaaW.PrintLast Go.Proofs.YtllaobhheokafaaW.PrintMore
set_option linter.unusedVariables false
set_option linter.unusedSimpArgs false
/-- No nought at the top. -/
def Trim (l : List Int) : Prop := l = [] ∨ rd l ((l.length - 1 : Nat) : Int) ≠ 0
theorem val_last {l : List Int} {n : Nat} (h : l.length = n + 1) : val l = NK l n + rd l (n : Nat) * 256 ^ n := by rw [val, h, NK]
theorem trim_lo {l : List Int} (hb : Bytes l) (ht : Trim l) {n : Nat} (h : l.length = n + 1) : 256 ^ n ≤ val l := by
  rw [val_last h]
  have h1 := NK_bd l (rd_byte hb) n
  have h2 := rd_byte hb n
  have h3 : rd l (n : Nat) ≠ 0 := by
    rcases ht with h4 | h4
    · rw [h4] at h; exact absurd h (by simp)
    · rw [h] at h4; exact h4
  have := Int.mul_le_mul_of_nonneg_right (show 1 ≤ rd l (n : Nat) by omega) (Int.le_of_lt (pow_pos' n))
  rw [Int.one_mul] at this
  omega
theorem trim_ev : ∀ (n : Nat) (a : List Int), a.length = n → Bytes a → a.length ≤ 1000000 → ∃ c, Ev (fun k => casketref16_trim.f k a) c ∧ Bytes c ∧ c.length ≤ a.length ∧ val c = val a ∧ Trim c := by
  unfold casketref16_trim.f
  intro n
  induction n with
  | zero =>
    intro a hl hB hm
    refine ⟨a, Ev.step (f := fun _ => some a) (fun k => ?_) (Ev.now _), hB, Nat.le_refl _, rfl, Or.inl (List.eq_nil_of_length_eq_zero hl)⟩
    simp only [casketref16_trim.l0]
    rw [if_neg (by omega)]
  | succ n ih =>
    intro a hl hB hm
    have e1 := Aside0.mk (show wrap64 ((a.length : Int) - 1) = (n : Nat) by rw [w64 (by omega) (by omega)]; omega)
    by_cases h : rd a (n : Nat) = 0
    · have hl2 : (a.take n).length = n := by rw [List.length_take]; omega
      obtain ⟨c, hc, h1, h2, h3, h4⟩ := ih (a.take n) hl2 (hB.take n) (by omega)
      refine ⟨c, Ev.step (f := fun k => casketref16_trim.l0 k (a.take n)) (fun k => ?_) hc, h1, by omega, ?_, h4⟩
      · simp only [casketref16_trim.l0]
        rw [if_pos (by omega), e1.out, if_pos (by omega), if_pos (by omega), if_pos h, if_pos (by omega), Int.toNat_natCast]
      · rw [h3, val_last hl, h, val, hl2, NK_congr (a.take n) a n (fun k hk => rd_take _ _ _ hk)]
        omega
    · refine ⟨a, Ev.step (f := fun _ => some a) (fun k => ?_) (Ev.now _), hB, Nat.le_refl _, rfl, Or.inr (by rw [hl]; exact h)⟩
      simp only [casketref16_trim.l0]
      rw [if_pos (by omega), e1.out, if_pos (by omega), if_pos (by omega), if_neg h]
set_option maxHeartbeats 2000000 in
theorem less_ev (a b : List Int) (ha : Bytes a) (hb : Bytes b) (hta : Trim a) (htb : Trim b) (hla : a.length ≤ 1000000) (hlb : b.length ≤ 1000000) : Ev (fun k => casketref16_less.f k a b) (decide (val a < val b)) := by
  unfold casketref16_less.f
  have hA := val_bd ha
  have hB := val_bd hb
  by_cases h : (a.length : Int) = (b.length : Int)
  · simp only [if_pos h]
    have key : ∀ j : Nat, j ≤ a.length → val a - NK a j = val b - NK b j → Ev (fun k => casketref16_less.l0 k a b ((j : Int) - 1)) (decide (val a < val b)) := by
      intro j
      induction j with
      | zero =>
        intro _ hv
        rw [NK, NK] at hv
        rw [decide_eq_false (by omega)]
        refine Ev.step (f := fun _ => some false) (fun k => ?_) (Ev.now _)
        simp only [casketref16_less.l0]
        rw [if_neg (by decide)]
      | succ j ih =>
        intro hj hv
        have e1 : ((j + 1 : Nat) : Int) - 1 = (j : Nat) := by omega
        rw [e1]
        rw [NK, NK] at hv
        by_cases he : rd a (j : Nat) = rd b (j : Nat)
        · refine Ev.step (f := fun k => casketref16_less.l0 k a b ((j : Int) - 1)) (fun k => ?_) (ih (by omega) (by rw [he] at hv; omega))
          simp only [casketref16_less.l0]
          rw [if_pos (by omega), if_pos (by omega), if_pos (by omega), if_pos (by omega), if_pos he, w64 (by omega) (by omega)]
        · have h1 := NK_bd a (rd_byte ha) j
          have h2 := NK_bd b (rd_byte hb) j
          have e2 : decide (val a < val b) = decide (rd a (j : Nat) < rd b (j : Nat)) := by
            have hp := pow_pos' j
            rcases Int.lt_or_le (rd a (j : Nat)) (rd b (j : Nat)) with h3 | h3
            · have := Int.mul_le_mul_of_nonneg_right (show rd a (j : Nat) + 1 ≤ rd b (j : Nat) by omega) (Int.le_of_lt hp)
              rw [Int.add_mul, Int.one_mul] at this
              rw [decide_eq_true h3, decide_eq_true (by omega)]
            · have := Int.mul_le_mul_of_nonneg_right (show rd b (j : Nat) + 1 ≤ rd a (j : Nat) by omega) (Int.le_of_lt hp)
              rw [Int.add_mul, Int.one_mul] at this
              rw [decide_eq_false (by omega), decide_eq_false (by omega)]
          rw [e2]
          refine Ev.step (f := fun _ => some (decide (rd a (j : Nat) < rd b (j : Nat)))) (fun k => ?_) (Ev.now _)
          simp only [casketref16_less.l0]
          rw [if_pos (by omega), if_pos (by omega), if_pos (by omega), if_pos (by omega), if_neg he]
    have e0 := Aside0.mk (show wrap64 ((a.length : Int) - 1) = (a.length : Int) - 1 from w64 (by omega) (by omega))
    simp only [e0.out]
    refine key a.length (Nat.le_refl _) ?_
    rw [show NK b a.length = NK b b.length by rw [show a.length = b.length by omega]]
    show val a - val a = val b - val b
    omega
  · simp only [if_neg h]
    have e2 : decide (val a < val b) = decide ((a.length : Int) < (b.length : Int)) := by
      rcases Int.lt_or_le (a.length : Int) (b.length : Int) with h3 | h3
      · have h4 := trim_lo hb htb (n := b.length - 1) (by omega)
        have h5 := pow_mono (show a.length ≤ b.length - 1 by omega)
        rw [decide_eq_true h3, decide_eq_true (by omega)]
      · have h4 := trim_lo ha hta (n := a.length - 1) (by omega)
        have h5 := pow_mono (show b.length ≤ a.length - 1 by omega)
        rw [decide_eq_false (by omega), decide_eq_false (by omega)]
    rw [e2]
    exact Ev.now _
set_option maxHeartbeats 2000000 in
theorem sub_ev (a b : List Int) (ha : Bytes a) (hb : Bytes b) (hle : val b ≤ val a) (hl : b.length ≤ a.length) (hla : a.length ≤ 1000000) : ∃ c, Ev (fun k => casketref16_sub.f k a b) c ∧ Bytes c ∧ c.length ≤ a.length ∧ val c = val a - val b ∧ Trim c := by
  unfold casketref16_sub.f
  have va : val a = NK a a.length := rfl
  replace hle := Aside0.mk hle
  have key : ∀ (d i : Nat) (out : List Int) (c : Int), a.length - i = d → i ≤ a.length → out.length = i → Bytes out → (c = 0 ∨ c = 1) → val out = NK a i - NK b i + c * 256 ^ i →
      ∃ r, Ev (fun k => casketref16_sub.l0 k a b out c (i : Nat)) r ∧ Bytes r ∧ r.length ≤ a.length ∧ val r = val a - val b ∧ Trim r := by
    intro d
    induction d with
    | zero =>
      intro i out c hd hi hlo hB hc hv
      obtain rfl : i = a.length := by omega
      rw [NK_val b a.length hl] at hv
      have h1 := val_bd hB
      rw [hlo] at h1
      have hv2 : val out = val a - val b := by
        rcases hc with rfl | rfl
        · omega
        · exfalso
          have := hle.out
          omega
      obtain ⟨r, hr, q1, q2, q3, q4⟩ := trim_ev out.length out rfl hB (by omega)
      refine ⟨r, Ev.step (f := fun k => (casketref16_trim.f k out).bind fun t => some t) (fun k => ?_) (Ev.bind hr (Ev.now _)), q1, by omega, by rw [q3, hv2], q4⟩
      simp only [casketref16_sub.l0]
      rw [if_neg (by omega)]
    | succ d ih =>
      intro i out c hd hi hlo hB hc hv
      replace hv := Aside0.mk hv
      have hx := rd_byte ha i
      have hy := rd_byte hb i
      have fb : ¬(i : Int) < b.length → rd b (i : Nat) = 0 := fun h => rd_far _ _ (by omega)
      obtain ⟨v, hvv⟩ : ∃ v, v = rd a (i : Nat) - c - rd b (i : Nat) := ⟨_, rfl⟩
      have hcb : 0 ≤ c ∧ c ≤ 1 := by omega
      have e3 := Aside0.mk (show wrap64 ((i : Int) + 1) = ((i + 1 : Nat) : Int) by rw [w64 (by omega) (by omega)]; rfl)
      have hv3 : ∀ x w : Int, x = v + w * 256 → val (out ++ [x]) = NK a (i + 1) - NK b (i + 1) + w * 256 ^ (i + 1) := by
        intro x w hxw
        rw [val_snoc, hlo, NK, NK, Int.pow_succ, hv.out, hxw, hvv]
        clear ih hle va hv
        grind
      by_cases hn : v < 0
      · obtain ⟨r, hr, p⟩ := ih (i + 1) (out ++ [v + 256]) 1 (by omega) (by omega) (by rw [List.length_append, hlo]; rfl) (hB.snoc (by omega)) (Or.inr rfl) (hv3 _ _ (by omega))
        refine ⟨r, Ev.step (f := fun k => casketref16_sub.l0 k a b (out ++ [v + 256]) 1 ((i + 1 : Nat) : Int)) (fun k => ?_) hr, p⟩
        simp only [casketref16_sub.l0]
        rw [if_pos (by omega), if_pos (by omega), w64 (n := rd a (i : Nat) - c) (by omega) (by omega)]
        by_cases h2 : (i : Int) < b.length
        · rw [if_pos h2, w64 (n := rd a (i : Nat) - c - rd b (i : Nat)) (by omega) (by omega), ← hvv, if_pos hn, if_pos (by omega), w64 (n := v + 256) (by omega) (by omega), e3.out]
        · have hz := fb h2
          rw [if_neg h2, show rd a (i : Nat) - c = v by omega, if_pos hn, if_pos (by omega), w64 (n := v + 256) (by omega) (by omega), e3.out]
      · obtain ⟨r, hr, p⟩ := ih (i + 1) (out ++ [v]) 0 (by omega) (by omega) (by rw [List.length_append, hlo]; rfl) (hB.snoc (by omega)) (Or.inl rfl) (hv3 _ _ (by omega))
        refine ⟨r, Ev.step (f := fun k => casketref16_sub.l0 k a b (out ++ [v]) 0 ((i + 1 : Nat) : Int)) (fun k => ?_) hr, p⟩
        simp only [casketref16_sub.l0]
        rw [if_pos (by omega), if_pos (by omega), w64 (n := rd a (i : Nat) - c) (by omega) (by omega)]
        by_cases h2 : (i : Int) < b.length
        · rw [if_pos h2, w64 (n := rd a (i : Nat) - c - rd b (i : Nat)) (by omega) (by omega), ← hvv, if_neg hn, if_pos (by omega), e3.out]
        · have hz := fb h2
          rw [if_neg h2, show rd a (i : Nat) - c = v by omega, if_neg hn, if_pos (by omega), e3.out]
  exact key _ 0 [] 0 rfl (by omega) rfl Bytes.nil (Or.inl rfl) (by simp [NK, val])
end Go.Proofs.Ytllaobhheokafaa.F
