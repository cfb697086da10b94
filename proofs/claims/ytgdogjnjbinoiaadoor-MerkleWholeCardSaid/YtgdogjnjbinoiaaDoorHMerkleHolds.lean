/- What is proved is verified, by few sums. No program in sight. -/
import Derived.Test.YtgdogjnjbinoiaaDoorDMerkleProvesX
import Derived.Test.YtgdogjnjbinoiaaDoorHmz2
import Derived.Test.YtgdogjnjbinoiaaDoorDMerkleHolds
namespace Go.Proofs.YtgdogjnjbinoiaaDoor.Q
open Go.RowKit Go.Proofs.YtgdogjnjbinoiaaDoorW.PrintWords Go.Proofs.YtgdogjnjbinoiaaDoorW.PrintLast Go.Proofs.YtgdogjnjbinoiaaDoorW.PrintMore Go.Proofs.YtgdogjnjbinoiaaDoor.F
set_option linter.unusedVariables false
set_option linter.unusedSimpArgs false
/-! ### how many sums -/
theorem half_bound (m d : Nat) (h : 2 ≤ m) (hd : m ≤ 2 ^ (d + 1)) : halfW m ≤ 2 ^ d ∧ m - halfW m ≤ 2 ^ d := by
  have h1 := (two_log (m - 1) (by omega)).2
  have h2 : Nat.log2 (m - 1) < d + 1 := (Nat.log2_lt (by omega)).mpr (by omega)
  have h3 : 2 ^ Nat.log2 (m - 1) ≤ 2 ^ d := Nat.pow_le_pow_right (by decide) (by omega)
  rw [halfW]
  omega
theorem pow_two {m d : Nat} (h : 2 ≤ m) (hd : m ≤ 2 ^ d) : ∃ e, d = e + 1 := by
  cases d with
  | zero => rw [Nat.pow_zero] at hd; omega
  | succ e => exact ⟨e, rfl⟩
theorem many_left (i j : Int) : ∀ (f lo hi d : Nat), hi - lo ≤ f → lo < hi → hi - lo ≤ 2 ^ d → i ≤ (lo : Int) → (lo : Int) ≤ j → manyW f lo hi i j ≤ d
  | 0, lo, hi, d, h1, h2, _, _, _ => by omega
  | f + 1, lo, hi, d, h1, h2, h3, h4, h5 => by
    rw [manyW]
    split
    · omega
    · rename_i c
      rw [dec_and] at c
      rw [if_neg (fun h => by rw [dec_or] at h; omega)]
      obtain ⟨e, rfl⟩ := pow_two (show 2 ≤ hi - lo by omega) h3
      obtain ⟨b1, b2⟩ := half_bound (hi - lo) e (by omega) h3
      have k1 := halfW_lt (hi - lo) (by omega)
      have k2 := halfW_pos (hi - lo)
      have a1 := many_left i j f lo (lo + halfW (hi - lo)) e (by omega) (by omega) (by omega) h4 h5
      by_cases c2 : ((lo + halfW (hi - lo) : Nat) : Int) ≤ j
      · have a2 := many_left i j f (lo + halfW (hi - lo)) hi e (by omega) (by omega) (by omega) (by omega) c2
        have a3 : manyW f lo (lo + halfW (hi - lo)) i j = 0 := by
          cases f with
          | zero => rfl
          | succ f => rw [manyW, if_pos (dec_and.mpr ⟨h4, by omega⟩)]
        omega
      · have a3 : manyW f (lo + halfW (hi - lo)) hi i j ≤ 1 := by
          cases f with
          | zero => exact Nat.zero_le _
          | succ f => rw [manyW, if_neg (fun h => by rw [dec_and] at h; omega), if_pos (dec_or.mpr (Or.inl (by omega)))]; exact Nat.le_refl _
        omega
theorem many_right (i j : Int) : ∀ (f lo hi d : Nat), hi - lo ≤ f → lo < hi → hi - lo ≤ 2 ^ d → (hi : Int) - 1 ≤ j → i ≤ (hi : Int) - 1 → manyW f lo hi i j ≤ d
  | 0, lo, hi, d, h1, h2, _, _, _ => by omega
  | f + 1, lo, hi, d, h1, h2, h3, h4, h5 => by
    rw [manyW]
    split
    · omega
    · rename_i c
      rw [dec_and] at c
      rw [if_neg (fun h => by rw [dec_or] at h; omega)]
      obtain ⟨e, rfl⟩ := pow_two (show 2 ≤ hi - lo by omega) h3
      obtain ⟨b1, b2⟩ := half_bound (hi - lo) e (by omega) h3
      have k1 := halfW_lt (hi - lo) (by omega)
      have k2 := halfW_pos (hi - lo)
      have a1 := many_right i j f (lo + halfW (hi - lo)) hi e (by omega) (by omega) (by omega) h4 h5
      by_cases c2 : i ≤ ((lo + halfW (hi - lo) : Nat) : Int) - 1
      · have a2 := many_right i j f lo (lo + halfW (hi - lo)) e (by omega) (by omega) (by omega) (by omega) c2
        have a3 : manyW f (lo + halfW (hi - lo)) hi i j = 0 := by
          cases f with
          | zero => rfl
          | succ f => rw [manyW, if_pos (dec_and.mpr ⟨by omega, h4⟩)]
        omega
      · have a3 : manyW f lo (lo + halfW (hi - lo)) i j ≤ 1 := by
          cases f with
          | zero => exact Nat.zero_le _
          | succ f => rw [manyW, if_neg (fun h => by rw [dec_and] at h; omega), if_pos (dec_or.mpr (Or.inr (by omega)))]; exact Nat.le_refl _
        omega
theorem many_mid (i j : Int) (hij : i ≤ j) : ∀ (f lo hi d : Nat), hi - lo ≤ f → lo < hi → hi - lo ≤ 2 ^ d → (lo : Int) ≤ j → i ≤ (hi : Int) - 1 → manyW f lo hi i j ≤ 2 * d
  | 0, lo, hi, d, h1, h2, _, _, _ => by omega
  | f + 1, lo, hi, d, h1, h2, h3, h4, h5 => by
    rw [manyW]
    split
    · omega
    · rename_i c
      rw [dec_and] at c
      rw [if_neg (fun h => by rw [dec_or] at h; omega)]
      obtain ⟨e, rfl⟩ := pow_two (show 2 ≤ hi - lo by omega) h3
      obtain ⟨b1, b2⟩ := half_bound (hi - lo) e (by omega) h3
      have k1 := halfW_lt (hi - lo) (by omega)
      have k2 := halfW_pos (hi - lo)
      by_cases c2 : j < ((lo + halfW (hi - lo) : Nat) : Int)
      · have a1 := many_mid i j hij f lo (lo + halfW (hi - lo)) e (by omega) (by omega) (by omega) h4 (by omega)
        have a3 : manyW f (lo + halfW (hi - lo)) hi i j ≤ 1 := by
          cases f with
          | zero => exact Nat.zero_le _
          | succ f => rw [manyW, if_neg (fun h => by rw [dec_and] at h; omega), if_pos (dec_or.mpr (Or.inl (by omega)))]; exact Nat.le_refl _
        omega
      · by_cases c3 : ((lo + halfW (hi - lo) : Nat) : Int) ≤ i
        · have a1 := many_mid i j hij f (lo + halfW (hi - lo)) hi e (by omega) (by omega) (by omega) (by omega) h5
          have a3 : manyW f lo (lo + halfW (hi - lo)) i j ≤ 1 := by
            cases f with
            | zero => exact Nat.zero_le _
            | succ f => rw [manyW, if_neg (fun h => by rw [dec_and] at h; omega), if_pos (dec_or.mpr (Or.inr (by omega)))]; exact Nat.le_refl _
          omega
        · have a1 := many_right i j f lo (lo + halfW (hi - lo)) e (by omega) (by omega) (by omega) (by omega) (by omega)
          have a2 := many_left i j f (lo + halfW (hi - lo)) hi e (by omega) (by omega) (by omega) (by omega) (by omega)
          omega
/-- How many bits a number has. -/
def bitsW (n : Nat) : Nat := if n = 0 then 0 else Nat.log2 n + 1
theorem bitsW_half (n : Nat) (h : n ≠ 0) : bitsW n = bitsW (n / 2) + 1 := by
  rw [bitsW, if_neg h, bitsW]
  by_cases h2 : n / 2 = 0
  · rw [if_pos h2, Nat.log2_def, if_neg (by omega)]
  · rw [if_neg h2, Nat.log2_def, if_pos (by omega)]
theorem lt_bitsW (n : Nat) : n ≤ 2 ^ bitsW n := by
  rw [bitsW]
  split
  · omega
  · rename_i h
    have := (two_log n h).2
    rw [Nat.pow_succ]
    omega
theorem bitsW_le (n : Nat) : bitsW n ≤ n := by
  induction n using Nat.strongRecOn with
  | _ n ih =>
    by_cases h : n = 0
    · rw [h]; exact Nat.le_refl _
    · rw [bitsW_half n h]
      have := ih (n / 2) (by omega)
      omega
theorem bits_ev (n : Nat) (hn : n ≤ 1000) : Ev (fun k => casketlaw20_bits.f k (n : Int)) ((bitsW n : Nat) : Int) := by
  have key : ∀ (x c : Nat), x + c ≤ 1000 → Ev (fun k => casketlaw20_bits.l0 k (x : Int) (c : Int)) ((c + bitsW x : Nat) : Int) := by
    intro x
    induction x using Nat.strongRecOn with
    | _ x ih =>
      intro c hx
      by_cases h : x = 0
      · refine Ev.step (f := fun _ => some (c : Int)) (fun k => ?_) ?_
        · simp only [casketlaw20_bits.l0]
          rw [if_neg (by omega)]
        · rw [h]
          exact Ev.now _
      · have e := ih (x / 2) (by omega) (c + 1) (by omega)
        rw [bitsW_half x h, show c + (bitsW (x / 2) + 1) = c + 1 + bitsW (x / 2) by omega]
        refine Ev.step (f := fun k => casketlaw20_bits.l0 k ((x / 2 : Nat) : Int) ((c + 1 : Nat) : Int)) (fun k => ?_) e
        simp only [casketlaw20_bits.l0]
        rw [if_pos (by omega), Int.tdiv_eq_ediv_of_nonneg (by omega), w64 (by omega) (by omega), w64 (by omega) (by omega)]
        rfl
  unfold casketlaw20_bits.f
  have := key n 0 hn
  rw [Nat.zero_add] at this
  exact this
/-! ### a proof and its leaves come to the root -/
theorem walkW_bytes (f : Nat) (l : List (List Int)) (lo hi : Nat) (i j : Int) (hs : AllBytes l) (hl : l.length ≤ 1000) : AllBytes (walkW f l lo hi i j) := by
  induction f generalizing lo hi with
  | zero => intro x hx; cases hx
  | succ f ih =>
    intro x hx
    rw [walkW] at hx
    split at hx
    · cases hx
    · split at hx
      · rw [List.mem_singleton] at hx
        rw [hx]
        exact rootW_bytes ((hs.take hi).drop lo) (by rw [List.length_drop, List.length_take]; omega)
      · rcases List.mem_append.mp hx with hx | hx
        · exact ih _ _ x hx
        · exact ih _ _ x hx
theorem cut_cut (l : List (List Int)) (a b lo hi : Nat) (h1 : a ≤ lo) (h2 : hi ≤ b) (h3 : lo ≤ hi) : (((l.take b).drop a).take (hi - a)).drop (lo - a) = (l.take hi).drop lo := by
  apply List.ext_getElem?
  intro n
  simp only [List.getElem?_take, List.getElem?_drop]
  by_cases c : lo - a + n < hi - a
  · rw [if_pos c, if_pos (by omega), if_pos (by omega), show a + (lo - a + n) = lo + n by omega]
  · rw [if_neg c, if_neg (by omega)]
theorem topW_walk (l : List (List Int)) (hl : l.length ≤ 1000) (I J : Nat) (hIJ : I ≤ J) (hJ : J < l.length) : ∀ (f lo hi : Nat) (rest : List (List Int)), hi - lo ≤ f → lo < hi → hi ≤ l.length →
    topW f ((l.take (J + 1)).drop I) I J lo hi (walkW f l lo hi I J ++ rest) false = (rootW ((l.take hi).drop lo), rest, false)
  | 0, lo, hi, rest, h1, h2, _ => by omega
  | f + 1, lo, hi, rest, h1, h2, h3 => by
    rcases part_cases lo hi I J h2 (by omega) with ⟨c1, c2⟩ | ⟨c1, c2⟩ | ⟨c1, c2, c3⟩
    · rw [walkW, if_pos (dec_and.mpr c1), topW, if_neg (fun h => c2 (dec_or.mp h)), if_pos (dec_and.mpr c1), show ((hi : Int) - (I : Int)).toNat = hi - I by omega, show ((lo : Int) - (I : Int)).toNat = lo - I by omega, cut_cut l I (J + 1) lo hi (by omega) (by omega) (by omega)]
      rfl
    · rw [walkW, if_neg (fun h => c1 (dec_and.mp h)), if_pos (dec_or.mpr c2), topW, if_pos (dec_or.mpr c2), if_neg (by simp)]
      rfl
    · have k1 := halfW_lt (hi - lo) c3
      have k2 := halfW_pos (hi - lo)
      have e1 := topW_walk l hl I J hIJ hJ f lo (lo + halfW (hi - lo)) (walkW f l (lo + halfW (hi - lo)) hi I J ++ rest) (by omega) (by omega) (by omega)
      have e2 := topW_walk l hl I J hIJ hJ f (lo + halfW (hi - lo)) hi rest (by omega) (by omega) (by omega)
      rw [walkW, if_neg (fun h => c1 (dec_and.mp h)), if_neg (fun h => c2 (dec_or.mp h)), topW, if_neg (fun h => c2 (dec_or.mp h)), if_neg (fun h => c1 (dec_and.mp h)), List.append_assoc]
      dsimp only
      rw [e1]
      dsimp only
      rw [e2, slice_root l hl lo hi (by omega) h3]
      rfl
theorem holds_root (l : List (List Int)) (hl : l.length ≤ 1000) (I J : Nat) (hIJ : I ≤ J) (hJ : J < l.length) : rebuildW (l.length : Int) I ((l.take (J + 1)).drop I) (proveW l I J).1 = (rootW l, 0) := by
  have hn := slice_length l I (J + 1) (by omega)
  have e1 := topW_walk l hl I J hIJ hJ l.length 0 l.length [] (by omega) (by omega) (Nat.le_refl _)
  rw [List.append_nil, List.take_length, List.drop_zero] at e1
  have hp : (proveW l I J).1 = walkW l.length l 0 l.length I J := by rw [proveW, if_neg (by omega)]
  have hj : (I : Int) + (((l.take (J + 1)).drop I).length : Int) - 1 = (J : Int) := by rw [hn]; omega
  rw [hp, rebuildW_ok l.length I ((l.take (J + 1)).drop I) _ (by omega) (by omega) (by omega) (by omega), hj, walkW_many, if_pos rfl, e1]
theorem MerkleHolds_ev (l : List (List Int)) (i j : Int) (hy : AllBytes l) : Ev (fun k => casketlaw20_MerkleHolds.f k l i j) true := by
  unfold casketlaw20_MerkleHolds.f
  refine Ev.bind awake_ev (Ev.bind (few_ev l 100 (by decide)) ?_)
  by_cases hf : fewB l 100 = true
  · obtain ⟨hl, hs⟩ := fewB_small hf
    obtain ⟨p1, p2⟩ := proveW_small l i j hs (by omega)
    simp only [hf, if_true, prove_f l i j (by omega) hs, Option.bind_some]
    by_cases c : i < 0 ∨ j < i ∨ (l.length : Int) ≤ j
    · have hp : (proveW l i j).2 = 1 := by rw [proveW, if_pos c]
      simp only [hp, if_neg (show ¬ (1 : Int) = 0 by decide)]
      by_cases c1 : i < 0
      · simp only [if_pos c1]; exact Ev.now _
      · simp only [if_neg c1]
        by_cases c2 : j < i
        · simp only [if_pos c2]; exact Ev.now _
        · simp only [if_neg c2]
          rw [decide_eq_true (show j ≥ (l.length : Int) by omega)]
          exact Ev.now _
    · have hp : (proveW l i j).2 = 0 := by rw [proveW, if_neg c]
      simp only [hp, if_true, if_neg (show ¬ i < 0 by omega), if_neg (show ¬ j < i by omega), decide_eq_false (show ¬ j ≥ (l.length : Int) by omega)]
      obtain ⟨I, rfl⟩ : ∃ I : Nat, i = I := ⟨i.toNat, by omega⟩
      obtain ⟨J, rfl⟩ : ∃ J : Nat, j = J := ⟨j.toNat, by omega⟩
      have hw : wrap64 ((J : Int) + 1) = ((J + 1 : Nat) : Int) := by rw [w64 (by omega) (by omega)]; omega
      have hn := slice_length l I (J + 1) (by omega)
      have hpy : AllBytes (proveW l I J).1 := by
        intro x hx
        have h1 : (proveW l I J).1 = walkW l.length l 0 l.length I J := by rw [proveW, if_neg c]
        rw [h1] at hx
        exact walkW_bytes l.length l 0 l.length I J hy (by omega) x hx
      have hv := verify_ev (rootW l) (l.length : Int) I ((l.take (J + 1)).drop I) (proveW l I J).1 (by omega) ((hs.take _).drop _) ((hy.take _).drop _) (by omega) p1 hpy (rootW_bytes hy (by omega))
      rw [holds_root l (by omega) I J (by omega) (by omega), decide_eq_true ⟨rfl, rfl⟩] at hv
      have hlen : (proveW l I J).1.length ≤ 2 * bitsW l.length := by
        have h1 : (proveW l I J).1 = walkW l.length l 0 l.length I J := by rw [proveW, if_neg c]
        rw [h1, walkW_many]
        exact many_mid I J (by omega) l.length 0 l.length (bitsW l.length) (by omega) (by omega) (by have := lt_bitsW l.length; omega) (by omega) (by omega)
      have hb := bitsW_le l.length
      refine Ev.step (f := fun k => (merkle_Verify.f k (rootW l) (l.length : Int) I ((l.take (J + 1)).drop I) (proveW l I J).1).bind fun t605 => (if t605 = true then ((casketlaw20_bits.f k (l.length : Int)).bind fun t606 => (some (decide (((proveW l I J).1.length : Int) ≤ (wrap64 (2 * t606)))))) else (some false))) (fun k => ?_) ?_
      · simp only [casketlaw20_MerkleHolds.j0]
        rw [if_neg (by decide), if_pos trivial, root_f l (by omega) hs, hw, Option.bind_some, if_pos (by omega), if_pos (by omega), if_pos (by omega), Int.toNat_natCast, Int.toNat_natCast]
      · refine Ev.bind hv ?_
        simp only [if_true]
        refine Ev.bind (bits_ev l.length (by omega)) ?_
        rw [w64 (by omega) (by omega), decide_eq_true (by omega)]
        exact Ev.now _
  · simp only [if_neg hf]
    exact Ev.now _
end Go.Proofs.YtgdogjnjbinoiaaDoor.Q
