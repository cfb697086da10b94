/- A key of more than 64 bytes stands for its sum; noughts behind a key, to 64 bytes, turn nothing: the pure statement. -/
import Derived.Test.YtgdogjnjbinoiaaDHmacKeys
import Derived.Test.YtgdogjnjbinoiaaFhmac
namespace Go.Proofs.Ytgdogjnjbinoiaa.Pure
open Go.RowKit Go.Proofs.Ytgdogjnjbinoiaa.Q Go.Proofs.Ytgdogjnjbinoiaa.F Go.Proofs.YtgdogjnjbinoiaaW.PrintWords Go.Proofs.YtgdogjnjbinoiaaW.PrintLast Go.Proofs.YtgdogjnjbinoiaaW.PrintMore
set_option linter.unusedVariables false

theorem and63 (n : Int) : 0 ≤ Go.bits .and .i64 n 63 ∧ Go.bits .and .i64 n 63 < 64 := by
  have h63 : (BitVec.ofInt 64 63).toNat = 2 ^ 6 - 1 := by decide
  have key : (BitVec.ofInt 64 n &&& BitVec.ofInt 64 63).toNat = (n % ((2 ^ 64 : Nat) : Int)).toNat % 2 ^ 6 := by
    rw [BitVec.toNat_and, BitVec.toNat_ofInt, h63, Nat.and_two_pow_sub_one_eq_mod]
  have h : Go.bits .and .i64 n 63 = IntKind.i64.wrap ((BitVec.ofInt 64 n &&& BitVec.ofInt 64 63).toNat : Nat) := rfl
  rw [h, key, IntKind.wrap_i64]
  omega
theorem mac_of_keyW (k1 k2 b : List Int) (h : keyW (shortW k1) = keyW (shortW k2)) : macW k1 [b] = macW k2 [b] := by
  rw [macW_one, macW_one]
  unfold padW
  rw [h]
theorem keyW_noughts (k : List Int) (m : Nat) (h : k.length + m ≤ 64) : keyW (shortW (k ++ List.replicate m 0)) = keyW (shortW k) := by
  unfold shortW
  rw [if_neg (by rw [List.length_append, List.length_replicate]; omega), if_neg (by omega)]
  unfold keyW
  rw [List.append_assoc, List.length_append, List.length_replicate, List.replicate_append_replicate]
  congr 2
  omega
theorem HmacKeys : casketlaw14_HmacKeys.Pure := by
  intro key b n _ _ hk _ _ hb hn
  apply Ev.rounds
  unfold casketlaw14_HmacKeys.f
  refine Ev.bind awake14_ev ?_
  have long : Ev (fun k => casketlaw14_HmacKeys.j0 k key b n true true) true := Ev.step (f := fun _ => some true) (fun k => by simp only [casketlaw14_HmacKeys.j0]; rfl) (Ev.now _)
  by_cases h1 : (key.length : Int) > 300
  · simp only [if_pos h1]
    exact long
  · simp only [if_neg h1]
    by_cases h2 : (b.length : Int) > 1000
    · simp only [decide_eq_true h2]
      exact long
    · simp only [decide_eq_false h2]
      have same : ∀ k2 : List Int, macW key [b] = macW k2 [b] → Ev (fun k => (casketlaw14_same.f k (macW key [b]) (macW k2 [b])).bind fun t => some t) true := fun k2 he => by
        refine Ev.bind (same14_ev _ _ (by rw [mac_len]; decide)) ?_
        rw [decide_eq_true he]
        exact Ev.now _
      by_cases h3 : (key.length : Int) > 64
      · refine Ev.step (f := fun k => (casketlaw14_same.f k (macW key [b]) (macW (shaW key) [b])).bind fun t => some t) (fun k => ?_) (same _ (mac_of_keyW _ _ _ ?_))
        · simp only [casketlaw14_HmacKeys.j0]
          rw [if_neg (by simp), mac_f key b (by omega) (by omega)]
          simp only [Option.bind_some]
          rw [if_pos h3, if_pos trivial, sha_f key (by omega)]
          simp only [Option.bind_some]
          rw [mac_f _ b (by rw [shaW_length]; decide) (by omega)]
          rfl
        · have e1 : shortW key = shaW key := if_pos (by omega)
          have e2 : shortW (shaW key) = shaW key := if_neg (by rw [shaW_length]; decide)
          rw [e1, e2]
      · have hm := and63 n
        obtain ⟨m, hmm⟩ : ∃ m : Nat, mn (Go.bits .and .i64 n 63) (wrap64 (64 - (key.length : Int))) = (m : Int) ∧ key.length + m ≤ 64 := by
          rw [w64 (by omega) (by omega)]
          generalize Go.bits .and .i64 n 63 = x at hm
          obtain ⟨q, rfl⟩ := Int.eq_ofNat_of_zero_le hm.1
          unfold mn
          split
          · exact ⟨64 - key.length, by omega, by omega⟩
          · exact ⟨q, rfl, by omega⟩
        refine Ev.step (f := fun k => (casketlaw14_same.f k (macW key [b]) (macW (key ++ List.replicate m 0) [b])).bind fun t => some t) (fun k => ?_) (same _ (mac_of_keyW _ _ _ (keyW_noughts key m hmm.2).symm))
        simp only [casketlaw14_HmacKeys.j0]
        rw [if_neg (by simp), mac_f key b (by omega) (by omega)]
        simp only [Option.bind_some]
        rw [if_neg h3, if_pos trivial]
        simp only [List.nil_append, List.length_nil]
        rw [if_pos (by omega), hmm.1, if_pos (by omega), Int.toNat_natCast, if_pos (by omega), mac_f _ b (by rw [List.length_append, List.length_replicate]; omega) (by omega)]
        rfl
end Go.Proofs.Ytgdogjnjbinoiaa.Pure
