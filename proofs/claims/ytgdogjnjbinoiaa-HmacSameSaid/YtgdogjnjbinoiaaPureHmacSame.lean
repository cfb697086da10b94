/- Bytes are the same whichever stands first, and as themselves; with a byte turned, or one more, they are not: the pure statement. -/
import Derived.Test.YtgdogjnjbinoiaaDHmacSame
import Derived.Test.YtgdogjnjbinoiaaFhmac
namespace Go.Proofs.Ytgdogjnjbinoiaa.Pure
open Go.RowKit Go.Proofs.Ytgdogjnjbinoiaa.Q Go.Proofs.Ytgdogjnjbinoiaa.F Go.Proofs.YtgdogjnjbinoiaaW.PrintWords Go.Proofs.YtgdogjnjbinoiaaW.PrintLast Go.Proofs.YtgdogjnjbinoiaaW.PrintMore
set_option linter.unusedVariables false

theorem and65535 (n : Int) : 0 ≤ Go.bits .and .i64 n 65535 ∧ Go.bits .and .i64 n 65535 < 65536 := by
  have h6 : (BitVec.ofInt 64 65535).toNat = 2 ^ 16 - 1 := by decide
  have key : (BitVec.ofInt 64 n &&& BitVec.ofInt 64 65535).toNat = (n % ((2 ^ 64 : Nat) : Int)).toNat % 2 ^ 16 := by
    rw [BitVec.toNat_and, BitVec.toNat_ofInt, h6, Nat.and_two_pow_sub_one_eq_mod]
  have h : Go.bits .and .i64 n 65535 = IntKind.i64.wrap ((BitVec.ofInt 64 n &&& BitVec.ofInt 64 65535).toNat : Nat) := rfl
  rw [h, key, IntKind.wrap_i64]
  omega
theorem set_same (a : List Int) (i : Nat) (v : Int) (h : i < a.length) : a = a.set i v ↔ rd a i = v := by
  have ra : rd a i = a[i] := by simp [rd, List.getD_eq_getElem?_getD, h]
  constructor
  · intro e
    have : rd (a.set i v) i = v := by simp [rd, List.getD_eq_getElem?_getD, h]
    rw [← e] at this
    exact this
  · intro e
    rw [← e, ra, List.set_getElem_self]
theorem xor8_same (a x : Int) (ha : 0 ≤ a ∧ a < 256) (hx : 0 ≤ x ∧ x < 256) : a = Go.bits .xor .u8 a x ↔ x = 0 := by
  obtain ⟨p, rfl⟩ := Int.eq_ofNat_of_zero_le ha.1
  obtain ⟨q, rfl⟩ := Int.eq_ofNat_of_zero_le hx.1
  have hp : p % 2 ^ IntKind.u8.bits = p := Nat.mod_eq_of_lt (by simp [IntKind.bits]; omega)
  have hq : q % 2 ^ IntKind.u8.bits = q := Nat.mod_eq_of_lt (by simp [IntKind.bits]; omega)
  have hlt : p ^^^ q < 2 ^ 8 := Nat.xor_lt_two_pow (by omega) (by omega)
  simp only [Go.bits, BitVec.ofInt_natCast, BitVec.toNat_xor, BitVec.toNat_ofNat, hp, hq]
  rw [IntKind.wrap_u8]
  have e : p ^^^ (p ^^^ q) = q := by rw [← Nat.xor_assoc, Nat.xor_self, Nat.zero_xor]
  constructor
  · intro h
    have h : p = p ^^^ q := by omega
    rw [← h, Nat.xor_self] at e
    omega
  · intro h
    obtain rfl : q = 0 := by omega
    rw [Nat.xor_zero]
    omega
theorem HmacSame : casketlaw14_HmacSame.Pure := by
  intro a b at_ by_ _ _ ha _ _ hb hat hby
  have Ha := bytes_of ha
  have Hb := bytes_of hb
  have Hy := wf_u8 hby
  apply Ev.rounds
  unfold casketlaw14_HmacSame.f
  refine Ev.bind awake14_ev ?_
  have long : Ev (fun k => casketlaw14_HmacSame.j0 k a b at_ by_ true true) true := Ev.step (f := fun _ => some true) (fun k => by simp only [casketlaw14_HmacSame.j0]; rfl) (Ev.now _)
  by_cases h1 : (a.length : Int) > 600
  · simp only [if_pos h1]
    exact long
  · simp only [if_neg h1]
    by_cases h2 : (b.length : Int) > 600
    · simp only [decide_eq_true h2]
      exact long
    · simp only [decide_eq_false h2]
      have rest : ∀ (c : List Int) (t : Bool), Bytes c → (decide (a = c) = !t) → Ev (fun k => casketlaw14_HmacSame.j1 k a b by_ true c t) true := by
        intro c t hc he
        refine Ev.step (f := fun k => (hmac_Same.f k a a).bind fun t395 => (if t395 = true then ((hmac_Same.f k a b).bind fun t396 => ((hmac_Same.f k b a).bind fun t397 => (if (t396 == t397) = true then ((hmac_Same.f k a c).bind fun t398 => (if (t398 == (!t)) = true then ((hmac_Same.f k a (a ++ [by_])).bind fun t408 => (some (!t408))) else (some false))) else (some false)))) else (some false))) (fun k => ?_) ?_
        · simp only [casketlaw14_HmacSame.j1, if_true, Option.bind_some, List.nil_append, List.length_nil]
          have q1 : 0 + a.length < 140737488355328 := by omega
          have q2 : a.length < 140737488355328 := by omega
          simp only [if_pos q1, if_pos q2]
        · refine Ev.bind (hsame_ev a a Ha Ha (by omega)) ?_
          rw [decide_eq_true rfl]
          simp only [if_true]
          refine Ev.bind (hsame_ev a b Ha Hb (by omega)) ?_
          refine Ev.bind (hsame_ev b a Hb Ha (by omega)) ?_
          have e1 : (decide (a = b) == decide (b = a)) = true := by
            rw [beq_iff_eq]
            exact decide_eq_decide.2 eq_comm
          simp only [e1, if_true]
          refine Ev.bind (hsame_ev a c Ha hc (by omega)) ?_
          rw [he]
          simp only [beq_self_eq_true, if_true]
          refine Ev.bind (hsame_ev a (a ++ [by_]) Ha (Ha.append (fun x hx => by rw [List.mem_singleton] at hx; rw [hx]; exact Hy)) (by omega)) ?_
          have e2 : ¬ a = a ++ [by_] := fun h => by
            have := congrArg List.length h
            simp at this
          rw [decide_eq_false e2]
          exact Ev.now _
      by_cases h3 : (a.length : Int) > 0
      · have hm := and65535 at_
        obtain ⟨q, hq⟩ := Int.eq_ofNat_of_zero_le hm.1
        have ht : Int.tmod (Go.bits .and .i64 at_ 65535) (a.length : Int) = ((q % a.length : Nat) : Int) := by rw [hq]; rfl
        have hlt : q % a.length < a.length := Nat.mod_lt _ (by omega)
        generalize q % a.length = i at ht hlt
        refine Ev.step (f := fun k => casketlaw14_HmacSame.j1 k a b by_ true (a.set i (Go.bits .xor .u8 (rd a i) by_)) (by_ != 0)) (fun k => ?_) (rest _ _ (set_bytes Ha _ _ (xor_byte _ _)) ?_)
        · simp only [casketlaw14_HmacSame.j0]
          rw [if_neg (by simp)]
          simp only [Option.bind_some, List.nil_append, List.length_nil]
          rw [if_pos (by omega), if_pos h3, if_neg (by omega), ht, if_pos (by omega), if_pos (by omega), Int.toNat_natCast]
        · have e3 : (a = a.set i (Go.bits .xor .u8 (rd a i) by_)) ↔ by_ = 0 := by rw [set_same a i _ hlt, xor8_same _ _ (bytes_rd Ha _) Hy]
          by_cases h0 : by_ = 0
          · rw [decide_eq_true (e3.2 h0), h0]; rfl
          · rw [decide_eq_false (fun h => h0 (e3.1 h))]
            have : (by_ != 0) = true := bne_iff_ne.2 h0
            rw [this]
            rfl
      · refine Ev.step (f := fun k => casketlaw14_HmacSame.j1 k a b by_ true a false) (fun k => ?_) (rest _ _ Ha (by simp))
        simp only [casketlaw14_HmacSame.j0]
        rw [if_neg (by simp)]
        simp only [Option.bind_some, List.nil_append, List.length_nil]
        rw [if_pos (by omega), if_neg h3]
end Go.Proofs.Ytgdogjnjbinoiaa.Pure
