/- Plain facts on what the program's Expand and the reference's come to: the same bytes. No program in sight; each fact under the conditions that it states. -/
import Derived.Test.YtgdogjnjbinoiaaFhmac
namespace Go.Proofs.Ytgdogjnjbinoiaa.F
open Go.RowKit Go.Proofs.Ytgdogjnjbinoiaa.Q Go.Proofs.YtgdogjnjbinoiaaW.PrintWords Go.Proofs.YtgdogjnjbinoiaaW.PrintLast Go.Proofs.YtgdogjnjbinoiaaW.PrintMore
set_option linter.unusedVariables false

theorem macW_flat (key : List Int) (bs : List (List Int)) : macW key bs = macW key [bs.flatten] := by
  unfold macW summedW
  simp
theorem tagN_len (key info : List Int) (i : Nat) : (tagN key info (i + 1)).length = 32 := by rw [tagN, macW_flat, mac_len]
theorem tagN_short (key info : List Int) : ∀ i, (tagN key info i).length ≤ 32
  | 0 => by simp [tagN]
  | i + 1 => by rw [tagN_len]; omega
theorem tagN_bytes (key info : List Int) : ∀ i, Bytes (tagN key info i)
  | 0 => fun x hx => by cases hx
  | i + 1 => by rw [tagN, macW_flat]; exact mac_bytes _ _
theorem expN_len (key info : List Int) : ∀ i, (expN key info i).length = 32 * i
  | 0 => rfl
  | i + 1 => by rw [expN, List.length_append, expN_len key info i, tagN_len]; omega
theorem expN_more (key info : List Int) (i : Nat) : ∀ m, (expN key info (i + m)).take (32 * i) = expN key info i
  | 0 => List.take_of_length_le (by rw [expN_len]; omega)
  | m + 1 => by
    rw [← Nat.add_assoc, expN, List.take_append_of_le_length (by rw [expN_len]; omega), expN_more key info i m]
theorem expN_take (key info : List Int) (i n : Nat) (hi : i ≤ 255) (hn : n ≤ 32 * i) : (expN key info i).take n = (expN key info 255).take n := by
  rw [← expN_more key info i (255 - i), List.take_take, Nat.min_eq_left hn, Nat.add_sub_cancel' hi]
theorem tag_one (key info : List Int) (i : Nat) (hi : i < 255) : macW key [tagN key info i ++ info ++ [((i : Int) + 1) % 256]] = tagN key info (i + 1) := by
  rw [tagN, macW_flat key [_, _, _], Int.emod_eq_of_lt (by omega) (by omega)]
  simp
def expW (key info : List Int) (n : Int) : List Int := (expN key info 255).take n.toNat
theorem expW_length (key info : List Int) (n : Int) (h0 : 0 ≤ n) (h1 : n ≤ 8160) : ((expW key info n).length : Int) = n := by
  rw [expW, List.length_take, expN_len]; omega
theorem exp32 (key info : List Int) : (expN key info 255).take 32 = macW key [info ++ [1]] := by
  have h3 := expN_more key info 1 254
  have h4 := tag_one key info 0 (by decide)
  have h5 : expN key info 1 = tagN key info 1 := rfl
  rw [show (1 + 254 : Nat) = 255 from rfl, h5] at h3
  rw [show (32 : Nat) = 32 * 1 from rfl, h3, ← h4]
  rfl
theorem exp_f (key info : List Int) (n : Int) (h0 : 0 ≤ n) (h1 : n ≤ 8160) (hk : key.length ≤ 549755813888) (hi : info.length ≤ 100000000000) : hmac_Expand.f key info n = some (expW key info n, 0) := by
  unfold hmac_Expand.f
  rw [if_neg (by omega), if_pos ⟨hk, hi⟩]
  rfl
theorem exp_f_none (key info : List Int) (n : Int) (h : n < 0 ∨ 8160 < n) : hmac_Expand.f key info n = some ([], 1) := by
  unfold hmac_Expand.f
  rw [if_pos h]
theorem refexp_l0 (key info : List Int) (n : Int) (hk : key.length ≤ 549755813888) (hi : info.length ≤ 100000000000) (hyk : Bytes key) (hyi : Bytes info) (h0 : 0 ≤ n) (h1 : n ≤ 8160) :
    ∀ d i : Nat, 255 - i = d → i ≤ 255 → Ev (fun k => casketref14_Expand.l0 k key info n (expN key info i) (tagN key info i) ((i : Int) + 1)) (expW key info n, 0) := by
  have done : ∀ i : Nat, i ≤ 255 → ¬ (32 * (i : Int) < n) → Ev (fun k => casketref14_Expand.l0 k key info n (expN key info i) (tagN key info i) ((i : Int) + 1)) (expW key info n, 0) := fun i hi hc => by
    refine Ev.step (f := fun _ => some ((expN key info i).take n.toNat, 0)) (fun k => ?_) ?_
    · simp only [casketref14_Expand.l0]
      rw [if_neg (by rw [expN_len]; omega), if_pos h0, if_pos (by rw [expN_len]; omega)]
    · rw [expN_take key info i _ hi (by omega)]
      exact Ev.now _
  intro d
  induction d with
  | zero => intro i hd hi9; exact done i hi9 (by omega)
  | succ d ih =>
    intro i hd hi9
    by_cases hc : 32 * (i : Int) < n
    · have hs := tagN_short key info i
      have hl := expN_len key info i
      refine Ev.step (f := fun k => (casketref14_MAC.f k key (tagN key info i ++ info ++ [((i : Int) + 1) % 256])).bind fun t => (if (expN key info i).length + t.length < 140737488355328 then (casketref14_Expand.l0 k key info n (expN key info i ++ t) t (((i + 1 : Nat) : Int) + 1)) else (none))) (fun k => ?_) ?_
      · simp only [casketref14_Expand.l0, Option.bind_some, List.nil_append, List.length_nil, List.length_append]
        rw [if_pos (by omega), if_pos (by omega), if_pos (by omega), if_pos (by omega), w64 (by omega) (by omega)]
        rfl
      · refine Ev.bind (refmac_ev key _ hk (by simp only [List.length_append, List.length_cons, List.length_nil]; omega) hyk (((tagN_bytes key info i).append hyi).append (fun x hx => by rw [List.mem_singleton] at hx; omega))) ?_
        rw [tag_one key info i (by omega)]
        have h2 : (expN key info i).length + (tagN key info (i + 1)).length < 140737488355328 := by rw [tagN_len]; omega
        simp only [if_pos h2]
        exact ih (i + 1) (by omega) (by omega)
    · exact done i hi9 hc
theorem refexp_ev (key info : List Int) (n : Int) (hk : key.length ≤ 549755813888) (hi : info.length ≤ 100000000000) (hyk : Bytes key) (hyi : Bytes info) (h0 : 0 ≤ n) (h1 : n ≤ 8160) : Ev (fun k => casketref14_Expand.f k key info n) (expW key info n, 0) := by
  unfold casketref14_Expand.f
  have e1 : ¬ n < 0 := by omega
  have e2 : ¬ n > 8160 := by omega
  simp only [if_neg e1, decide_eq_false e2]
  refine Ev.step (f := fun k => casketref14_Expand.l0 k key info n [] [] 1) (fun k => ?_) (refexp_l0 key info n hk hi hyk hyi h0 h1 255 0 rfl (by omega))
  simp only [casketref14_Expand.j0]
  rw [if_neg (by simp)]
theorem refexp_none (key info : List Int) (n : Int) (h : n < 0 ∨ 8160 < n) : Ev (fun k => casketref14_Expand.f k key info n) ([], 1) := by
  unfold casketref14_Expand.f
  have bad : Ev (fun k => casketref14_Expand.j0 k key info n true) ([], 1) := Ev.step (f := fun _ => some ([], 1)) (fun k => by simp only [casketref14_Expand.j0]; rfl) (Ev.now _)
  by_cases e1 : n < 0
  · simp only [if_pos e1]
    exact bad
  · have e2 : n > 8160 := by omega
    simp only [if_neg e1, decide_eq_true e2]
    exact bad
end Go.Proofs.Ytgdogjnjbinoiaa.F
