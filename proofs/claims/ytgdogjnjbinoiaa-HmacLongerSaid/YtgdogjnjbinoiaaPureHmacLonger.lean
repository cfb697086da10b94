/- What is made of a key is the beginning of what is made of it in more bytes; the first piece is the tag of those bytes and 1: the pure statement. -/
import Derived.Test.YtgdogjnjbinoiaaDHmacLonger
import Derived.Test.YtgdogjnjbinoiaaFexp
namespace Go.Proofs.Ytgdogjnjbinoiaa.Pure
open Go.RowKit Go.Proofs.Ytgdogjnjbinoiaa.Q Go.Proofs.Ytgdogjnjbinoiaa.F Go.Proofs.YtgdogjnjbinoiaaW.PrintWords Go.Proofs.YtgdogjnjbinoiaaW.PrintLast Go.Proofs.YtgdogjnjbinoiaaW.PrintMore
set_option linter.unusedVariables false

theorem and255l (n : Int) : 0 ≤ Go.bits .and .i64 n 255 ∧ Go.bits .and .i64 n 255 < 256 := by
  have h6 : (BitVec.ofInt 64 255).toNat = 2 ^ 8 - 1 := by decide
  have key : (BitVec.ofInt 64 n &&& BitVec.ofInt 64 255).toNat = (n % ((2 ^ 64 : Nat) : Int)).toNat % 2 ^ 8 := by
    rw [BitVec.toNat_and, BitVec.toNat_ofInt, h6, Nat.and_two_pow_sub_one_eq_mod]
  have h : Go.bits .and .i64 n 255 = IntKind.i64.wrap ((BitVec.ofInt 64 n &&& BitVec.ofInt 64 255).toNat : Nat) := rfl
  rw [h, key, IntKind.wrap_i64]
  omega
theorem HmacLonger : casketlaw14_HmacLonger.Pure := by
  intro key info n more _ _ hk _ _ hi hn hm
  have Hk := bytes_of hk
  have Hi := bytes_of hi
  apply Ev.rounds
  unfold casketlaw14_HmacLonger.f
  refine Ev.bind awake14_ev ?_
  have long : Ev (fun k => casketlaw14_HmacLonger.j0 k key info n more true true) true := Ev.step (f := fun _ => some true) (fun k => by simp only [casketlaw14_HmacLonger.j0]; rfl) (Ev.now _)
  by_cases h1 : (key.length : Int) > 300
  · simp only [if_pos h1]
    exact long
  · simp only [if_neg h1]
    by_cases h2 : (info.length : Int) > 300
    · simp only [decide_eq_true h2]
      exact long
    · simp only [decide_eq_false h2]
      have ha := and255l n
      have hb := and255l more
      have hw : wrap64 (Go.bits .and .i64 n 255 + Go.bits .and .i64 more 255) = Go.bits .and .i64 n 255 + Go.bits .and .i64 more 255 := w64 (by omega) (by omega)
      obtain ⟨x, hx⟩ : ∃ x, Go.bits .and .i64 n 255 = x := ⟨_, rfl⟩
      obtain ⟨y, hy⟩ : ∃ y, Go.bits .and .i64 more 255 = y := ⟨_, rfl⟩
      rw [hx, hy] at hw
      rw [hx] at ha
      rw [hy] at hb
      have lx := expW_length key info x (by omega) (by omega)
      have lxy := expW_length key info (x + y) (by omega) (by omega)
      have l32 := expW_length key info 32 (by omega) (by omega)
      have e1 : (expW key info (x + y)).take x.toNat = expW key info x := by
        rw [expW, expW, List.take_take, Nat.min_eq_left (by omega)]
      have e2 : macW key [info ++ [1]] = expW key info 32 := by
        have h3 := expN_more key info 1 254
        have h4 := tag_one key info 0 (by decide)
        have h5 : expN key info 1 = tagN key info 1 := rfl
        rw [show (1 + 254 : Nat) = 255 from rfl, h5] at h3
        rw [expW, show (32 : Int).toNat = 32 * 1 from rfl, h3, ← h4]
        rfl
      refine Ev.step (f := fun k => casketlaw14_HmacLonger.j1 k key info true x (expW key info x) (expW key info (x + y)) (expW key info 32) false) (fun k => ?_) ?_
      · simp only [casketlaw14_HmacLonger.j0, hx, hy, hw, exp_f key info x (by omega) (by omega) (by omega) (by omega), exp_f key info (x + y) (by omega) (by omega) (by omega) (by omega), exp_f key info 32 (by omega) (by omega) (by omega) (by omega), Option.bind_some]
        rw [if_neg (by simp), if_pos trivial, if_pos trivial, if_pos trivial, if_pos lx, if_pos lxy, l32]
        rfl
      · refine Ev.step (f := fun k => (casketlaw14_same.f k (expW key info x) (expW key info x)).bind fun t => (if t = true then ((casketlaw14_same.f k (expW key info 32) (expW key info 32)).bind fun t => (some t)) else (some false))) (fun k => ?_) ?_
        · simp only [casketlaw14_HmacLonger.j1, Option.bind_some, List.nil_append, List.length_nil, e1]
          rw [if_neg (by simp), if_pos trivial, if_pos (by omega), if_pos (by omega)]
          have p1 : 0 + info.length < 140737488355328 := by omega
          have p2 : info.length < 140737488355328 := by omega
          simp only [if_pos p1, if_pos p2, mac_f key (info ++ [1]) (by omega) (by simp only [List.length_append, List.length_cons, List.length_nil]; omega), Option.bind_some, e2]
        · refine Ev.bind (same14_ev _ _ (by omega)) ?_
          rw [decide_eq_true rfl]
          simp only [if_true]
          refine Ev.bind (same14_ev _ _ (by omega)) ?_
          rw [decide_eq_true rfl]
          exact Ev.now _
end Go.Proofs.Ytgdogjnjbinoiaa.Pure
