/- One piece, with r 1: the pure statement. -/
import Derived.Test.YtllaobhheokafaaDPolyOne
import Derived.Test.YtllaobhheokafaaFpo4
namespace Go.Proofs.Ytllaobhheokafaa.Pure
open Go.RowKit Go.Proofs.Ytllaobhheokafaa.Q Go.Proofs.Ytllaobhheokafaa.F Go.Proofs.YtllaobhheokafaaW.PrintWords Go.Proofs.YtllaobhheokafaaW.PrintLast Go.Proofs.YtllaobhheokafaaW.PrintMore
set_option linter.unusedVariables false
set_option linter.unusedSimpArgs false
/-- The first i bytes, laid into sixteen noughts. -/
def wN (b : List Int) : Nat → List Int
  | 0 => List.replicate 16 0
  | i + 1 => (wN b i).set i (rd b (i : Nat))
theorem wN_length (b : List Int) : ∀ i, (wN b i).length = 16
  | 0 => rfl
  | i + 1 => by rw [wN, List.length_set, wN_length b i]
theorem wN_rd (b : List Int) : ∀ i : Nat, i ≤ 16 → ∀ k : Nat, k < 16 → rd (wN b i) k = if k < i then rd b k else 0
  | 0, _, k, hk => by
    rw [if_neg (by omega), wN, rd_get _ _ (by rw [List.length_replicate]; exact hk), List.getElem_replicate]
  | i + 1, h, k, hk => by
    rw [wN]
    by_cases e : k = i
    · subst e
      rw [rd_set _ _ _ (by rw [wN_length]; omega), if_pos (by omega)]
    · rw [rd_set_far _ _ _ _ (by omega), wN_rd b i (by omega) k hk]
      by_cases e2 : k < i
      · rw [if_pos e2, if_pos (by omega)]
      · rw [if_neg e2, if_neg (by omega)]
theorem PolyOne : casketlaw16_PolyOne.Pure := by
  intro b _ _ hb
  apply Ev.rounds
  unfold casketlaw16_PolyOne.f
  rw [awake16]
  simp only [Option.bind_some]
  have long : Ev (fun k => casketlaw16_PolyOne.j0 k b true true) true := Ev.step (f := fun _ => some true) (fun k => by simp only [casketlaw16_PolyOne.j0]; rfl) (Ev.now _)
  by_cases h0 : (b.length : Int) = 0
  · simp only [if_pos h0]
    exact long
  simp only [if_neg h0]
  by_cases h15 : (b.length : Int) > 15
  · simp only [decide_eq_true h15]
    exact long
  simp only [decide_eq_false h15]
  have B := bytes_of hb
  have hz : Bytes (List.replicate 16 0) := fun x hx => by rw [List.eq_of_mem_replicate hx]; decide
  obtain ⟨want, hw⟩ : ∃ want, want = (wN b b.length).set b.length 1 := ⟨_, rfl⟩
  have hwl : want.length = 16 := by rw [hw, List.length_set, wN_length]
  have hwr : ∀ k : Nat, k < 16 → rd want k = rd (b ++ [1]) k := fun k hk => by
    rw [hw]
    by_cases e : k = b.length
    · subst e
      rw [rd_set _ _ _ (by rw [wN_length]; omega), rd_get _ _ (by simp), List.getElem_append_right (by omega)]
      simp
    · rw [rd_set_far _ _ _ _ (by omega), wN_rd b b.length (by omega) k hk]
      by_cases e2 : k < b.length
      · rw [if_pos e2, rd_append_left _ _ _ e2]
      · rw [if_neg e2, rd_far _ _ (by simp; omega)]
  have B1 := one_byte b B
  have hwb : ∀ k : Nat, 0 ≤ rd want k ∧ rd want k < 256 := fun k => by
    by_cases hk : k < 16
    · rw [hwr k hk]; exact rd_byte B1 k
    · rw [rd_far _ _ (by omega)]; decide
  have hN : NK (b ++ [1]) (b ++ [1]).length = NK want 16 := by
    rw [← NK_far (b ++ [1]) 16 (by simp; omega)]
    exact (NK_congr _ _ 16 (fun k hk => hwr k hk)).symm
  have hNb := NK_bd want hwb 16
  rw [p16] at hNb
  have hdw : dig (NK want 16) = want := by
    refine rd_ext 16 (dig_length _) hwl fun k hk => ?_
    rw [rd_dig _ k hk, NK_digit want hwb 16 k hk]
  have n1 : (b.length + 15) / 16 = 1 := by omega
  have e1 : macP key1 b = want := by
    rw [mac1 B, n1, Hn_1, piece0 b (by omega), hN]
    have : (0 + NK want 16) * 1 % P130 = NK want 16 := by unfold P130; omega
    rw [this, hdw]
  have e2 : macP key1 (List.replicate 16 0 ++ b) = want := by
    have hl2 : ((List.replicate 16 (0 : Int) ++ b).length + 15) / 16 = 2 := by rw [List.length_append, List.length_replicate]; omega
    rw [mac1 (Bytes.append hz B), hl2, Hn_2]
    have p0 : pieceL (List.replicate 16 0 ++ b) 0 = List.replicate 16 0 := rfl
    have p1 : pieceL (List.replicate 16 0 ++ b) 1 = b := by
      rw [pieceL]
      show ((List.replicate 16 0 ++ b).take 32).drop 16 = _
      rw [List.take_of_length_le (by rw [List.length_append, List.length_replicate]; omega)]
      rfl
    rw [p0, p1, hN, NK_z1]
    have : ((0 + 340282366920938463463374607431768211456) * 1 + NK want 16) * 1 % P130 = NK want 16 + 340282366920938463463374607431768211456 * 1 := by unfold P130; omega
    rw [this, dig_mod, hdw]
  have f1 := pmac_f key1 b (by decide) key1_bytes B (by omega)
  have f2 := pmac_f key1 (List.replicate 16 0 ++ b) (by decide) key1_bytes (Bytes.append hz B) (by rw [List.length_append, List.length_replicate]; omega)
  rw [e1] at f1
  rw [e2] at f2
  have hk : (List.replicate 32 (0 : Int)).set (0 : Int).toNat 1 = key1 := rfl
  refine Ev.step (f := fun k => casketlaw16_PolyOne.l0 k b true key1 want 0 (List.replicate 16 0) 0) (fun k => ?_) ?_
  · simp only [casketlaw16_PolyOne.j0, Option.bind_some, hk, f1]
    rw [if_neg (by decide), if_pos (by decide), if_pos (by decide), if_pos (by decide)]
  have key : ∀ (d i : Nat), b.length - i = d → i ≤ b.length → Ev (fun k => casketlaw16_PolyOne.l0 k b true key1 want 0 (wN b i) (i : Nat)) true := by
    intro d
    induction d with
    | zero =>
      intro i hd hi
      obtain rfl : i = b.length := by omega
      refine Ev.step (f := fun k => (casketlaw16_same.f k want want).bind fun t571 => (if t571 = true then ((casketlaw16_same.f k want want).bind fun t572 => (some t572)) else (some false))) (fun k => ?_) ?_
      · simp only [casketlaw16_PolyOne.l0]
        rw [if_neg (by omega), if_pos (by omega), if_pos (by rw [wN_length]; omega)]
        simp only [Option.bind_some, Int.toNat_natCast, ← hw, f2, List.length_replicate]
        rw [if_pos (by decide), if_pos (by omega)]
        simp only [if_true]
      · have h := same16_ev want want (by omega)
        rw [decide_eq_true rfl] at h
        refine Ev.bind h ?_
        simp only [if_true]
        exact Ev.bind h (Ev.now _)
    | succ d ih =>
      intro i hd hi
      refine Ev.step (f := fun k => casketlaw16_PolyOne.l0 k b true key1 want 0 (wN b (i + 1)) ((i + 1 : Nat) : Int)) (fun k => ?_) (ih (i + 1) (by omega) (by omega))
      simp only [casketlaw16_PolyOne.l0]
      rw [if_pos (by omega), if_pos (by omega), if_pos (by rw [wN_length]; omega), w64 (by omega) (by omega)]
      rfl
  exact key b.length 0 (by omega) (by omega)
end Go.Proofs.Ytllaobhheokafaa.Pure
