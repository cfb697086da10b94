/- As many of one byte as one likes have the reference's sum: the pure statement, for a byte and a length of any value. -/
import Derived.Test.YtgdogjnjbinoiaaDShaLong
import Derived.Test.YtgdogjnjbinoiaaPureShaSums
namespace Go.Proofs.Ytgdogjnjbinoiaa.Pure
open Go.RowKit Go.Proofs.Ytgdogjnjbinoiaa.Q Go.Proofs.Ytgdogjnjbinoiaa.F Go.Proofs.YtgdogjnjbinoiaaW.PrintWords Go.Proofs.YtgdogjnjbinoiaaW.PrintLast Go.Proofs.YtgdogjnjbinoiaaW.PrintMore
set_option linter.unusedVariables false

theorem and511 (n : Int) : 0 ≤ Go.bits .and .i64 n 511 ∧ Go.bits .and .i64 n 511 < 512 := by
  have h511 : (BitVec.ofInt 64 511).toNat = 2 ^ 9 - 1 := by decide
  have key : (BitVec.ofInt 64 n &&& BitVec.ofInt 64 511).toNat = (n % ((2 ^ 64 : Nat) : Int)).toNat % 2 ^ 9 := by
    rw [BitVec.toNat_and, BitVec.toNat_ofInt, h511, Nat.and_two_pow_sub_one_eq_mod]
  have h : Go.bits .and .i64 n 511 = IntKind.i64.wrap ((BitVec.ofInt 64 n &&& BitVec.ofInt 64 511).toNat : Nat) := rfl
  rw [h, key, IntKind.wrap_i64]
  omega
theorem fill_set (x : Int) (i m : Nat) : (List.replicate i x ++ List.replicate (m + 1) (0 : Int)).set i x = List.replicate (i + 1) x ++ List.replicate m 0 := by
  rw [List.set_append_right _ _ (by simp)]
  simp [List.replicate_succ']
  rw [← List.replicate_succ', List.replicate_succ]
  simp
theorem ShaLong : casketlaw13_ShaLong.Pure := by
  intro x n hx hn
  apply Ev.rounds
  unfold casketlaw13_ShaLong.f
  simp only [awake13, Option.bind_some, if_true]
  have hm := and511 n
  generalize Go.bits .and .i64 n 511 = m at hm ⊢
  have hm2 : m.toNat ≤ 281474976710656 := by omega
  simp only [if_pos hm.1, if_pos hm2]
  clear hm2
  obtain ⟨q, rfl⟩ := Int.eq_ofNat_of_zero_le hm.1
  have hq : q < 512 := by omega
  rw [Int.toNat_natCast]
  clear hm
  have key : ∀ (d i : Nat), q - i = d → i ≤ q → Ev (fun k => casketlaw13_ShaLong.l0 k x true (List.replicate i x ++ List.replicate (q - i) 0) (i : Int)) true := by
    intro d
    induction d with
    | zero =>
      intro i hd hi
      obtain rfl : i = q := by omega
      refine Ev.step (f := fun k => (casketref13_Sum.f k (List.replicate i x)).bind fun t244 => ((casketlaw13_same.f k (shaW (List.replicate i x)) t244).bind fun t247 => (some t247))) (fun k => ?_) ?_
      · simp only [casketlaw13_ShaLong.l0, Nat.sub_self, List.replicate_zero, List.append_nil]
        rw [if_neg (by rw [List.length_replicate]; omega), if_pos trivial, sha_f _ (by rw [List.length_replicate]; omega)]
        rfl
      · refine Ev.bind (refsum_ev _ (by rw [List.length_replicate]; omega) (fun y hy => ?_)) ?_
        · rw [List.mem_replicate] at hy
          rw [hy.2]
          exact wf_u8 hx
        · exact Ev.bind (same13_yes _ (by rw [shaW_length]; omega)) (Ev.now _)
    | succ d ih =>
      intro i hd hi
      refine Ev.step (f := fun k => casketlaw13_ShaLong.l0 k x true (List.replicate (i + 1) x ++ List.replicate (q - (i + 1)) 0) ((i + 1 : Nat) : Int)) (fun k => ?_) (ih (i + 1) (by omega) (by omega))
      simp only [casketlaw13_ShaLong.l0]
      rw [if_pos (by rw [List.length_append, List.length_replicate, List.length_replicate]; omega), if_pos (by omega), w64 (by omega) (by omega), Int.toNat_natCast]
      rw [show q - i = (q - (i + 1)) + 1 by omega, fill_set]
      rfl
  have := key q 0 (by omega) (by omega)
  simpa using this
end Go.Proofs.Ytgdogjnjbinoiaa.Pure
