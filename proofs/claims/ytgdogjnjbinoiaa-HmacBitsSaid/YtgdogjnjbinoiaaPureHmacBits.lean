/- A tag with any bit turned is refused, and one that is shorter, or longer: the pure statement. -/
import Derived.Test.YtgdogjnjbinoiaaDHmacBits
import Derived.Test.YtgdogjnjbinoiaaPureHmacSame
namespace Go.Proofs.Ytgdogjnjbinoiaa.Pure
open Go.RowKit Go.Proofs.Ytgdogjnjbinoiaa.Q Go.Proofs.Ytgdogjnjbinoiaa.F Go.Proofs.YtgdogjnjbinoiaaW.PrintWords Go.Proofs.YtgdogjnjbinoiaaW.PrintLast Go.Proofs.YtgdogjnjbinoiaaW.PrintMore
set_option linter.unusedVariables false

theorem and255 (n : Int) : 0 ≤ Go.bits .and .i64 n 255 ∧ Go.bits .and .i64 n 255 < 256 := by
  have h6 : (BitVec.ofInt 64 255).toNat = 2 ^ 8 - 1 := by decide
  have key : (BitVec.ofInt 64 n &&& BitVec.ofInt 64 255).toNat = (n % ((2 ^ 64 : Nat) : Int)).toNat % 2 ^ 8 := by
    rw [BitVec.toNat_and, BitVec.toNat_ofInt, h6, Nat.and_two_pow_sub_one_eq_mod]
  have h : Go.bits .and .i64 n 255 = IntKind.i64.wrap ((BitVec.ofInt 64 n &&& BitVec.ofInt 64 255).toNat : Nat) := rfl
  rw [h, key, IntKind.wrap_i64]
  omega
theorem and31 (n : Int) : 0 ≤ Go.bits .and .i64 n 31 ∧ Go.bits .and .i64 n 31 < 32 := by
  have h6 : (BitVec.ofInt 64 31).toNat = 2 ^ 5 - 1 := by decide
  have key : (BitVec.ofInt 64 n &&& BitVec.ofInt 64 31).toNat = (n % ((2 ^ 64 : Nat) : Int)).toNat % 2 ^ 5 := by
    rw [BitVec.toNat_and, BitVec.toNat_ofInt, h6, Nat.and_two_pow_sub_one_eq_mod]
  have h : Go.bits .and .i64 n 31 = IntKind.i64.wrap ((BitVec.ofInt 64 n &&& BitVec.ofInt 64 31).toNat : Nat) := rfl
  rw [h, key, IntKind.wrap_i64]
  omega
theorem one_shl (r : Nat) (h : r < 8) : 0 ≤ shl .u8 1 (r : Int) ∧ shl .u8 1 (r : Int) < 256 ∧ shl .u8 1 (r : Int) ≠ 0 := by
  match r, h with
  | 0, _ => decide
  | 1, _ => decide
  | 2, _ => decide
  | 3, _ => decide
  | 4, _ => decide
  | 5, _ => decide
  | 6, _ => decide
  | 7, _ => decide
theorem HmacBits : casketlaw14_HmacBits.Pure := by
  intro key b n cut _ _ hk _ _ hb hn hc
  have Hk := bytes_of hk
  have Hb := bytes_of hb
  apply Ev.rounds
  unfold casketlaw14_HmacBits.f
  refine Ev.bind awake14_ev ?_
  have long : Ev (fun k => casketlaw14_HmacBits.j0 k key b n cut true true) true := Ev.step (f := fun _ => some true) (fun k => by simp only [casketlaw14_HmacBits.j0]; rfl) (Ev.now _)
  by_cases h1 : (key.length : Int) > 300
  · simp only [if_pos h1]
    exact long
  · simp only [if_neg h1]
    by_cases h2 : (b.length : Int) > 1000
    · simp only [decide_eq_true h2]
      exact long
    · simp only [decide_eq_false h2]
      have hml := mac_len key b
      have hmb := mac_bytes key b
      have hmf := mac_f key b (by omega) (by omega)
      have chk : ∀ t : List Int, Bytes t → Ev (fun k => hmac_Check.f k key b t) (decide (macW key [b] = t)) := fun t ht => check_ev key b t (by omega) (by omega) ht
      generalize macW key [b] = m at hml hmb hmf chk
      refine Ev.step (f := fun k => (hmac_Check.f k key b m).bind fun t337 => (casketlaw14_HmacBits.j1 k key b n cut true m (!t337))) (fun k => ?_) ?_
      · simp only [casketlaw14_HmacBits.j0]
        rw [if_neg (by simp), hmf]
        simp only [Option.bind_some]
        rw [if_pos (by omega)]
      · refine Ev.bind (chk m hmb) ?_
        rw [decide_eq_true rfl]
        have hx := and255 n
        obtain ⟨q, hq⟩ := Int.eq_ofNat_of_zero_le hx.1
        have hd : wrap64 (Int.tdiv (Go.bits .and .i64 n 255) 8) = ((q / 8 : Nat) : Int) := by
          have : Int.tdiv (Go.bits .and .i64 n 255) 8 = ((q / 8 : Nat) : Int) := by rw [hq]; rfl
          rw [this, w64 (by omega) (by omega)]
        have hr : IntKind.u64.wrap (Int.tmod (Go.bits .and .i64 n 255) 8) = ((q % 8 : Nat) : Int) := by
          have : Int.tmod (Go.bits .and .i64 n 255) 8 = ((q % 8 : Nat) : Int) := by rw [hq]; rfl
          rw [this, wu64 (by omega) (by omega)]
        have hs := one_shl (q % 8) (by omega)
        have hcu := and31 cut
        obtain ⟨c, hcc⟩ := Int.eq_ofNat_of_zero_le hcu.1
        have hi : q / 8 < m.length := by omega
        have e1 : ¬ m = m.set (q / 8) (Go.bits .xor .u8 (rd m (q / 8 : Nat)) (shl .u8 1 ((q % 8 : Nat) : Int))) := by
          rw [set_same m _ _ hi, xor8_same _ _ (bytes_rd hmb _) ⟨hs.1, hs.2.1⟩]
          exact hs.2.2
        have e2 : ¬ m = m.take c := fun h => by
          have := congrArg List.length h
          rw [List.length_take] at this
          omega
        have e3 : ¬ m = m ++ [0] := fun h => by
          have := congrArg List.length h
          simp at this
        refine Ev.step (f := fun k => (hmac_Check.f k key b (m.set (q / 8) (Go.bits .xor .u8 (rd m (q / 8 : Nat)) (shl .u8 1 ((q % 8 : Nat) : Int))))).bind fun t346 => (if t346 = true then (some false) else ((hmac_Check.f k key b (m.take c)).bind fun t351 => (if t351 = true then (some false) else ((hmac_Check.f k key b (m ++ [0])).bind fun t361 => (some (!t361))))))) (fun k => ?_) ?_
        · simp only [casketlaw14_HmacBits.j1, Option.bind_some, List.nil_append, List.length_nil]
          rw [if_neg (by simp), if_pos (by omega), hd, hr, if_pos (by omega), if_pos (by omega), if_pos (by omega), if_pos trivial, Int.toNat_natCast, hcc, Int.toNat_natCast]
          have p1 : (0 : Int) ≤ (c : Int) := by omega
          have p2 : (c : Int) ≤ (m.length : Int) := by omega
          have p3 : 0 + m.length < 140737488355328 := by omega
          have p4 : m.length < 140737488355328 := by omega
          simp only [if_pos p1, if_pos p2, if_pos p3, if_pos p4]
        · refine Ev.bind (chk _ (set_bytes hmb _ _ (xor_byte _ _))) ?_
          rw [decide_eq_false e1]
          simp only [Bool.false_eq_true, if_false]
          refine Ev.bind (chk _ (hmb.take c)) ?_
          rw [decide_eq_false e2]
          simp only [Bool.false_eq_true, if_false]
          refine Ev.bind (chk _ (hmb.append (fun x hx => by rw [List.mem_singleton] at hx; omega))) ?_
          rw [decide_eq_false e3]
          exact Ev.now _
end Go.Proofs.Ytgdogjnjbinoiaa.Pure
