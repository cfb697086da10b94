/- Plain facts on keys that are made, and nonces: what the program's functions come to is what the reference's come to. No program in sight; each fact under the conditions that it states. -/
import Derived.Test.YtgdogjnjbinoiaaFexp
import Derived.Test.YtgdogjnjbinoiaaDkeys
import Derived.Test.YtgdogjnjbinoiaaDref18
namespace Go.Proofs.Ytgdogjnjbinoiaa.F
open Go.RowKit Go.Proofs.Ytgdogjnjbinoiaa.Q Go.Proofs.YtgdogjnjbinoiaaW.PrintWords Go.Proofs.YtgdogjnjbinoiaaW.PrintLast Go.Proofs.YtgdogjnjbinoiaaW.PrintMore
set_option linter.unusedVariables false

theorem wf_i64 {x : Int} (h : (Lit.int .i64 x).wf = true) : -9223372036854775808 ≤ x ∧ x < 9223372036854775808 := by
  simp only [Lit.wf, Bool.and_eq_true, decide_eq_true_eq] at h
  have h1 : IntKind.i64.min = -9223372036854775808 := by decide
  have h2 : IntKind.i64.max = 9223372036854775807 := by decide
  omega
theorem same18_ev (a b : List Int) (ha : a.length ≤ 140737488355328) : Ev (fun k => casketlaw18_same.f k a b) (decide (a = b)) := by
  unfold casketlaw18_same.f
  exact Ev.bind (same_ev a b ha) (Ev.now _)
theorem awake18_ev : Ev casketlaw18_awake.f true := Ev.of (fun k => casketlaw18_awake.mono k) (show casketlaw18_awake.f 100 = some true by kernel_rfl)
theorem derive_both (key : List Int) (p : Int) (s : ByteArray) (hb : Bytes key) (hp : 0 ≤ p ∧ p < 256) : ∃ r, keys_Derive.f key p s = some r ∧ casketref18_Derive.f key p s = some r ∧ r.1.length ≤ 32 ∧ Bytes r.1 := by
  unfold keys_Derive.f casketref18_Derive.f
  by_cases h1 : key.length = 32
  · rw [if_pos h1, if_pos h1]
    by_cases h2 : s.size ≤ 64
    · rw [if_pos h2, if_pos h2, if_pos ⟨hb, hp⟩]
      exact ⟨_, rfl, rfl, by simp only [mac_len]; omega, mac_bytes _ _⟩
    · rw [if_neg h2, if_neg h2]
      exact ⟨_, rfl, rfl, by simp, fun x hx => by cases hx⟩
  · rw [if_neg h1, if_neg h1]
    exact ⟨_, rfl, rfl, by simp, fun x hx => by cases hx⟩
/-- A nonce, or why there is none. -/
def nonceW (key : List Int) (v i : Int) : List Int × Int :=
  if key.length = 32 ∧ 0 ≤ i ∧ i < 1048576 then ((macW (macW key [keyText 3 (⟨#[]⟩ : ByteArray) ++ [1]]) [fixN v 8 8 ++ fixN (IntKind.u64.wrap i) 4 4]).take 12, 0) else ([], 1)
theorem nonceW_len (key : List Int) (v i : Int) : (nonceW key v i).1.length ≤ 12 := by
  unfold nonceW
  split
  · simp only [List.length_take]; omega
  · simp
theorem fix8 (v : Int) : cursor_Fix.f v 8 = some (fixN v 8 8) := rfl
theorem fix4 (v : Int) : cursor_Fix.f v 4 = some (fixN v 4 4) := rfl
theorem nonce_ev (key : List Int) (v i : Int) (hi : -9223372036854775808 ≤ i ∧ i < 9223372036854775808) : Ev (fun k => keys_Nonce.f k key v i) (nonceW key v i) := by
  unfold keys_Nonce.f
  have bad : ∀ x, Ev (fun k => keys_Nonce.j0 k v i x true) ([], 1) := fun x => Ev.step (f := fun _ => some ([], 1)) (fun k => by simp only [keys_Nonce.j0]; rfl) (Ev.now _)
  by_cases h1 : key.length = 32
  · have e1 : keys_Derive.f key 3 (⟨#[]⟩ : ByteArray) = some (macW key [keyText 3 (⟨#[]⟩ : ByteArray) ++ [1]], 0) := by
      unfold keys_Derive.f
      rw [if_pos h1, if_pos (by decide)]
    simp only [e1, Option.bind_some, if_true]
    by_cases h2 : i < 0
    · simp only [if_pos h2]
      rw [show nonceW key v i = ([], 1) from if_neg (by omega)]
      exact bad _
    · simp only [if_neg h2]
      by_cases h3 : i ≥ 1048576
      · simp only [decide_eq_true h3]
        rw [show nonceW key v i = ([], 1) from if_neg (by omega)]
        exact bad _
      · simp only [decide_eq_false h3]
        rw [show nonceW key v i = ((macW (macW key [keyText 3 (⟨#[]⟩ : ByteArray) ++ [1]]) [fixN v 8 8 ++ fixN (IntKind.u64.wrap i) 4 4]).take 12, 0) from if_pos ⟨h1, by omega, by omega⟩]
        refine Ev.step (f := fun _ => some ((macW (macW key [keyText 3 (⟨#[]⟩ : ByteArray) ++ [1]]) [fixN v 8 8 ++ fixN (IntKind.u64.wrap i) 4 4]).take 12, 0)) (fun k => ?_) (Ev.now _)
        simp only [keys_Nonce.j0]
        rw [if_neg (by simp), fix8, fix4]
        simp only [Option.bind_some]
        rw [if_pos (by rw [fixN_length, fixN_length]; decide), mac_f _ _ (by rw [mac_len]; decide) (by rw [List.length_append, fixN_length, fixN_length]; decide)]
        simp only [Option.bind_some]
        rw [if_pos (by rw [mac_len]; decide)]
        rfl
  · have e1 : keys_Derive.f key 3 (⟨#[]⟩ : ByteArray) = some ([], 1) := by
      unfold keys_Derive.f
      rw [if_neg h1]
    rw [show nonceW key v i = ([], 1) from if_neg (by omega)]
    simp only [e1, Option.bind_some]
    have h10 : ¬ ((1 : Int) = 0) := by decide
    simp only [if_neg h10]
    exact bad _
theorem reffix8 (v : Int) : Ev (fun k => casketref03_Fix.f k v 8) (fixN v 8 8) := Ev.of (fun k => casketref03_Fix.mono v 8 k) (show casketref03_Fix.f 20 v 8 = some (fixN v 8 8) by kernel_rfl)
theorem reffix4 (v : Int) : Ev (fun k => casketref03_Fix.f k v 4) (fixN v 4 4) := Ev.of (fun k => casketref03_Fix.mono v 4 k) (show casketref03_Fix.f 20 v 4 = some (fixN v 4 4) by kernel_rfl)
theorem fixN_bytes (v : Int) (n : Nat) : ∀ k, Bytes (fixN v n k)
  | 0 => fun x hx => by rw [fixN, List.mem_replicate] at hx; omega
  | k + 1 => set_bytes (fixN_bytes v n k) _ _ (by omega)
theorem refnonce_ev (key : List Int) (v i : Int) (hb : Bytes key) (hi : -9223372036854775808 ≤ i ∧ i < 9223372036854775808) : Ev (fun k => casketref18_Nonce.f k key v i) (nonceW key v i) := by
  unfold casketref18_Nonce.f
  by_cases h1 : key.length = 32
  · have e1 : casketref18_Derive.f key 3 (⟨#[]⟩ : ByteArray) = some (macW key [keyText 3 (⟨#[]⟩ : ByteArray) ++ [1]], 0) := by
      unfold casketref18_Derive.f
      rw [if_pos h1, if_pos (by decide), if_pos ⟨hb, by decide, by decide⟩]
    have bad : ∀ x, Ev (fun k => casketref18_Nonce.j0 k v i x true) ([], 1) := fun x => Ev.step (f := fun _ => some ([], 1)) (fun k => by simp only [casketref18_Nonce.j0]; rfl) (Ev.now _)
    simp only [e1, Option.bind_some, if_true]
    by_cases h2 : i < 0
    · simp only [if_pos h2]
      rw [show nonceW key v i = ([], 1) from if_neg (by omega)]
      exact bad _
    · simp only [if_neg h2]
      by_cases h3 : i ≥ 1048576
      · simp only [decide_eq_true h3]
        rw [show nonceW key v i = ([], 1) from if_neg (by omega)]
        exact bad _
      · simp only [decide_eq_false h3]
        rw [show nonceW key v i = ((macW (macW key [keyText 3 (⟨#[]⟩ : ByteArray) ++ [1]]) [fixN v 8 8 ++ fixN (IntKind.u64.wrap i) 4 4]).take 12, 0) from if_pos ⟨h1, by omega, by omega⟩]
        have hK := mac_len key (keyText 3 (⟨#[]⟩ : ByteArray) ++ [1])
        have hKb := mac_bytes key (keyText 3 (⟨#[]⟩ : ByteArray) ++ [1])
        generalize macW key [keyText 3 (⟨#[]⟩ : ByteArray) ++ [1]] = K at hK hKb ⊢
        refine Ev.step (f := fun k => (casketref03_Fix.f k v 8).bind fun t643 => ((casketref03_Fix.f k (IntKind.u64.wrap (i)) 4).bind fun t646 => (if t643.length + t646.length < 140737488355328 then ((casketref14_MAC.f k K (t643 ++ t646)).bind fun t652 => (if 12 ≤ (t652.length : Int) then (some ((t652.take (12 : Int).toNat), 0)) else (none))) else (none)))) (fun k => ?_) ?_
        · simp only [casketref18_Nonce.j0]
          rw [if_neg (by simp)]
        · refine Ev.bind (reffix8 v) ?_
          refine Ev.bind (reffix4 _) ?_
          have h5 : (fixN v 8 8).length + (fixN (IntKind.u64.wrap i) 4 4).length < 140737488355328 := by rw [fixN_length, fixN_length]; decide
          simp only [if_pos h5]
          refine Ev.bind (refmac_ev K _ (by omega) (by rw [List.length_append, fixN_length, fixN_length]; decide) hKb ((fixN_bytes _ _ _).append (fixN_bytes _ _ _))) ?_
          rw [if_pos (by rw [mac_len]; decide)]
          exact Ev.now _
  · have e1 : casketref18_Derive.f key 3 (⟨#[]⟩ : ByteArray) = some ([], 1) := by
      unfold casketref18_Derive.f
      rw [if_neg h1]
    rw [show nonceW key v i = ([], 1) from if_neg (by omega)]
    simp only [e1, Option.bind_some]
    have h10 : ¬ ((1 : Int) = 0) := by decide
    simp only [if_neg h10]
    exact Ev.now _
end Go.Proofs.Ytgdogjnjbinoiaa.F
