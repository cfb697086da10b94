/- The tree of sums: what the program's stack of tops comes to is the root of two halves. No program in sight. -/
import Derived.Test.YtgdogjnjbinoiaaDoorHmk
namespace Go.Proofs.YtgdogjnjbinoiaaDoor.Q
open Go.RowKit Go.Proofs.YtgdogjnjbinoiaaDoorW.PrintWords Go.Proofs.YtgdogjnjbinoiaaDoorW.PrintLast Go.Proofs.YtgdogjnjbinoiaaDoorW.PrintMore Go.Proofs.YtgdogjnjbinoiaaDoor.F
set_option linter.unusedVariables false
set_option linter.unusedSimpArgs false
/-- The root of a list, by its halves. -/
def treeW (l : List (List Int)) : List Int :=
  if h : l.length ≤ 1 then rd_L1 l 0 else nodeW (treeW (l.take (halfW l.length))) (treeW (l.drop (halfW l.length)))
termination_by l.length
decreasing_by
  · rw [List.length_take]
    have := halfW_lt l.length (by omega)
    omega
  · rw [List.length_drop]
    have := halfW_pos l.length
    omega
theorem treeW_one (l : List (List Int)) (h : l.length ≤ 1) : treeW l = rd_L1 l 0 := by rw [treeW, dif_pos h]
theorem treeW_two (l : List (List Int)) (h : 2 ≤ l.length) : treeW l = nodeW (treeW (l.take (halfW l.length))) (treeW (l.drop (halfW l.length))) := by rw [treeW, dif_neg (by omega)]
/-- The tops of a list, one for each bit of its length. -/
def decW (l : List (List Int)) : List (List Int) :=
  if h : l.length = 0 then [] else treeW (l.take (2 ^ Nat.log2 l.length)) :: decW (l.drop (2 ^ Nat.log2 l.length))
termination_by l.length
decreasing_by
  rw [List.length_drop]
  have : 0 < 2 ^ Nat.log2 l.length := Nat.pos_of_ne_zero (by simp)
  omega
theorem decW_nil (l : List (List Int)) (h : l.length = 0) : decW l = [] := by rw [decW, dif_pos h]
theorem decW_cons (l : List (List Int)) (h : l.length ≠ 0) : decW l = treeW (l.take (2 ^ Nat.log2 l.length)) :: decW (l.drop (2 ^ Nat.log2 l.length)) := by rw [decW, dif_neg h]
theorem two_log (n : Nat) (h : n ≠ 0) : 2 ^ Nat.log2 n ≤ n ∧ n < 2 * 2 ^ Nat.log2 n := by
  refine ⟨(Nat.le_log2 h).mp (Nat.le_refl _), ?_⟩
  have := (Nat.log2_lt h).mp (Nat.lt_succ_self _)
  rw [Nat.pow_succ] at this
  omega
theorem log_eq (n a : Nat) (h1 : 2 ^ a ≤ n) (h2 : n < 2 * 2 ^ a) : Nat.log2 n = a := by
  have hp : 0 < 2 ^ a := Nat.pos_of_ne_zero (by simp)
  have hn : n ≠ 0 := by omega
  apply Nat.le_antisymm
  · have := (Nat.log2_lt (n := n) (k := a + 1) hn).mpr (by rw [Nat.pow_succ]; omega)
    omega
  · exact (Nat.le_log2 hn).mpr h1
/-! ### putting together leaves the first tops alone -/
theorem joinL_cons (t : List Int) (s : List (List Int)) (h : 2 ≤ s.length) : joinL (t :: s) = t :: joinL s := by
  obtain ⟨n, hn⟩ : ∃ n, s.length = n + 2 := ⟨s.length - 2, by omega⟩
  have r : ∀ m : Nat, rd_L1 (t :: s) ((m + 1 : Nat) : Int) = rd_L1 s (m : Nat) := fun m => by simp [rd_L1]
  rw [joinL, joinL, List.length_cons, hn, show n + 2 + 1 - 2 = n + 1 by omega, show n + 2 + 1 - 1 = (n + 1) + 1 by omega, show n + 2 - 2 = n by omega, show n + 2 - 1 = n + 1 by omega, r, r, List.take_succ_cons]
  rfl
theorem joinL_pair (t u : List Int) : joinL [t, u] = [nodeW t u] := by rfl
theorem joinsL_cons (t : List Int) : ∀ (j : Nat) (s : List (List Int)), j < s.length → joinsL j (t :: s) = t :: joinsL j s
  | 0, s, _ => rfl
  | j + 1, s, h => by
    rw [joinsL, joinsL, joinL_cons t s (by omega), joinsL_cons t j (joinL s) (by rw [joinL_length s (by omega)]; omega)]
/-! ### the lowest bit of a number -/
def tzOk (n : Nat) : Bool := if n = 2 ^ Nat.log2 n then tz n == Nat.log2 n else tz n == tz (n - 2 ^ Nat.log2 n)
theorem tzOk_all : (List.range 1001).all (fun n => n == 0 || tzOk n) = true := by kernel_rfl
theorem tzOk_at (n : Nat) (h0 : n ≠ 0) (h : n ≤ 1000) : tzOk n = true := by
  have := List.all_eq_true.mp tzOk_all n (List.mem_range.mpr (by omega))
  rw [Bool.or_eq_true, beq_iff_eq] at this
  exact this.resolve_left h0
theorem tz_pow (n a : Nat) (h : n = 2 ^ a) (h1 : n ≤ 1000) : tz n = a := by
  have hp : 0 < 2 ^ a := Nat.pos_of_ne_zero (by simp)
  have hl : Nat.log2 n = a := log_eq n a (by omega) (by omega)
  have := tzOk_at n (by omega) h1
  rw [tzOk, if_pos (by rw [hl]; exact h), beq_iff_eq, hl] at this
  exact this
theorem tz_rest (n : Nat) (h0 : n ≠ 0) (h1 : n ≤ 1000) (h2 : n ≠ 2 ^ Nat.log2 n) : tz n = tz (n - 2 ^ Nat.log2 n) := by
  have := tzOk_at n h0 h1
  rw [tzOk, if_neg h2, beq_iff_eq] at this
  exact this
/-- Whole powers of two have one top: the root. -/
theorem decW_pow (l : List (List Int)) (a : Nat) (h : l.length = 2 ^ a) : decW l = [treeW l] := by
  have hp : 0 < 2 ^ a := Nat.pos_of_ne_zero (by simp)
  have hl : Nat.log2 l.length = a := log_eq _ a (by omega) (by omega)
  rw [decW_cons l (by omega), hl, List.take_of_length_le (by omega), decW_nil _ (by rw [List.length_drop]; omega)]
theorem half_pow (a : Nat) : halfW (2 * 2 ^ a) = 2 ^ a := by
  have hp : 0 < 2 ^ a := Nat.pos_of_ne_zero (by simp)
  rw [halfW, log_eq (2 * 2 ^ a - 1) a (by omega) (by omega)]
/-- The tops behind one leaf more. -/
theorem decW_snoc : ∀ (n : Nat) (m : List (List Int)) (x : List Int), m.length = n → n < 1000 → tz (n + 1) ≤ (decW m).length ∧ decW (m ++ [x]) = joinsL (tz (n + 1)) (decW m ++ [x]) := by
  intro n
  induction n using Nat.strongRecOn with
  | _ n ih =>
    intro m x hm hn
    by_cases h0 : n = 0
    · have hm0 : m = [] := List.length_eq_zero_iff.mp (by omega)
      subst hm0
      subst h0
      rw [decW_nil [] rfl, List.nil_append, decW_pow [x] 0 rfl, treeW_one [x] (by simp)]
      exact ⟨by decide, rfl⟩
    · obtain ⟨hp1, hp2⟩ := two_log n h0
      obtain ⟨a, ha⟩ : ∃ a, a = Nat.log2 n := ⟨_, rfl⟩
      obtain ⟨p, hp⟩ : ∃ p, p = 2 ^ a := ⟨_, rfl⟩
      rw [← ha, ← hp] at hp1 hp2
      have hpp : 0 < p := by omega
      have hd : decW m = treeW (m.take p) :: decW (m.drop p) := by rw [decW_cons m (by omega), hm, ← ha, ← hp]
      have hdl : (m.drop p).length = n - p := by rw [List.length_drop, hm]
      obtain ⟨ih1, ih2⟩ := ih (n - p) (by omega) (m.drop p) x hdl (by omega)
      by_cases hq : n + 1 = 2 * p
      · have e1 : n - p + 1 = p := by omega
        have t1 : tz (n - p + 1) = a := tz_pow _ a (by omega) (by omega)
        have t2 : tz (n + 1) = a + 1 := tz_pow _ (a + 1) (by rw [Nat.pow_succ, ← hp]; omega) (by omega)
        rw [t1] at ih1 ih2
        have hx : (m.drop p ++ [x]).length = 2 ^ a := by rw [List.length_append, hdl, ← hp]; simp; omega
        rw [decW_pow _ a hx] at ih2
        have hml : (m ++ [x]).length = 2 * 2 ^ a := by rw [List.length_append, hm, ← hp]; simp; omega
        have h2p : 2 ≤ (m ++ [x]).length := by rw [hml, ← hp]; omega
        refine ⟨by rw [t2, hd, List.length_cons]; omega, ?_⟩
        rw [t2, hd, joinsL_succ, List.cons_append, joinsL_cons _ a _ (by rw [List.length_append]; simp; omega), ← ih2, joinL_pair, decW_pow _ (a + 1) (by rw [hml, Nat.pow_succ]; omega), treeW_two _ h2p, hml, half_pow, ← hp, List.take_append_of_le_length (by omega), List.drop_append_of_le_length (by omega)]
      · have hl : Nat.log2 (n + 1) = a := log_eq _ a (by omega) (by omega)
        have t1 : tz (n + 1) = tz (n - p + 1) := by
          rw [tz_rest (n + 1) (by omega) (by omega) (by rw [hl]; omega), hl, ← hp]
          congr 1
          omega
        rw [← t1] at ih1 ih2
        refine ⟨by rw [hd, List.length_cons]; omega, ?_⟩
        have hml : (m ++ [x]).length = n + 1 := by rw [List.length_append, hm]; rfl
        rw [decW_cons (m ++ [x]) (by omega), hml, hl, ← hp, List.take_append_of_le_length (by omega), List.drop_append_of_le_length (by omega), hd, List.cons_append, joinsL_cons _ _ _ (by rw [List.length_append]; simp; omega), ih2]
theorem topsW_dec (l : List (List Int)) (h : l.length ≤ 1000) : ∀ k, k ≤ l.length → topsW l k = decW (l.take k)
  | 0, _ => by rw [decW_nil _ (by simp)]; rfl
  | k + 1, hk => by
    have hl : (l.take k).length = k := by rw [List.length_take]; omega
    have h1 := (decW_snoc k (l.take k) (l[k]) hl (by omega)).2
    rw [topsW, topsW_dec l h k (by omega), rd_L1_nat l k (by omega), ← h1, List.take_succ_eq_append_getElem (by omega)]
/-- All tops put together are the root. -/
theorem decW_all : ∀ (n : Nat) (l : List (List Int)), l.length = n → n ≠ 0 → 0 < (decW l).length ∧ joinsL ((decW l).length - 1) (decW l) = [treeW l] := by
  intro n
  induction n using Nat.strongRecOn with
  | _ n ih =>
    intro l hl h0
    obtain ⟨hp1, hp2⟩ := two_log n h0
    obtain ⟨a, ha⟩ : ∃ a, a = Nat.log2 n := ⟨_, rfl⟩
    rw [← ha] at hp1 hp2
    by_cases hq : n = 2 ^ a
    · rw [decW_pow l a (by omega)]
      exact ⟨by simp, rfl⟩
    · have hd : decW l = treeW (l.take (2 ^ a)) :: decW (l.drop (2 ^ a)) := by rw [decW_cons l (by omega), hl, ← ha]
      have hp : 0 < 2 ^ a := Nat.pos_of_ne_zero (by simp)
      obtain ⟨ih1, ih2⟩ := ih (n - 2 ^ a) (by omega) (l.drop (2 ^ a)) (by rw [List.length_drop, hl]) (by omega)
      have hh : halfW l.length = 2 ^ a := by rw [hl, halfW, log_eq (n - 1) a (by omega) (by omega)]
      rw [hd, List.length_cons]
      refine ⟨by omega, ?_⟩
      obtain ⟨k, hk⟩ : ∃ k, (decW (l.drop (2 ^ a))).length = k + 1 := ⟨(decW (l.drop (2 ^ a))).length - 1, by omega⟩
      rw [hk] at ih2 ⊢
      rw [show k + 1 - 1 = k by omega] at ih2
      rw [show k + 1 + 1 - 1 = k + 1 by omega, joinsL_succ, joinsL_cons _ k _ (by omega), ih2, joinL_pair, treeW_two l (by omega), hh]
theorem rootW_tree (l : List (List Int)) (h : l.length ≤ 1000) (h0 : l.length ≠ 0) : rootW l = treeW l := by
  rw [rootW, if_neg h0, topsW_dec l h l.length (Nat.le_refl _), List.take_length, (decW_all l.length l rfl h0).2]
  rfl
theorem rootW_half (l : List (List Int)) (h : l.length ≤ 1000) (h0 : 2 ≤ l.length) : rootW l = nodeW (rootW (l.take (halfW l.length))) (rootW (l.drop (halfW l.length))) := by
  have h1 := halfW_lt l.length h0
  have h2 := halfW_pos l.length
  rw [rootW_tree l h (by omega), treeW_two l h0, rootW_tree (l.take _) (by rw [List.length_take]; omega) (by rw [List.length_take]; omega), rootW_tree (l.drop _) (by rw [List.length_drop]; omega) (by rw [List.length_drop]; omega)]
theorem rootW_one (l : List (List Int)) (h : l.length = 1) : rootW l = rd_L1 l 0 := by rw [rootW_tree l (by omega) (by omega), treeW_one l (by omega)]
theorem rootW_none (l : List (List Int)) (h : l.length = 0) : rootW l = shaW [] := by rw [rootW, if_pos h]
end Go.Proofs.YtgdogjnjbinoiaaDoor.Q
