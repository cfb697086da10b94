/- Plain facts on what a tag is made of. No program in sight; each fact under the conditions that it states. -/
import Derived.Test.YtllaobhheokafaaDaead
import Derived.Test.YtllaobhheokafaaFpo4
namespace Go.Proofs.Ytllaobhheokafaa.F
open Go.RowKit Go.Proofs.Ytllaobhheokafaa.Q Go.Proofs.YtllaobhheokafaaW.PrintWords Go.Proofs.YtllaobhheokafaaW.PrintLast Go.Proofs.YtllaobhheokafaaW.PrintMore
set_option linter.unusedVariables false
theorem lowN_length (n : Int) : ∀ i, (lowN n i).length = i
  | 0 => rfl
  | i + 1 => by rw [lowN, List.length_append, lowN_length n i]; rfl
theorem low_ev (n : Int) : Ev (fun k => aead_low.f k n) (lowN n 8) := by
  unfold aead_low.f
  have key : ∀ (d i : Nat), 8 - i = d → i ≤ 8 → Ev (fun k => aead_low.l0 k n (lowN n i) (i : Nat)) (lowN n 8) := by
    intro d
    induction d with
    | zero =>
      intro i hd hi
      obtain rfl : i = 8 := by omega
      refine Ev.step (f := fun _ => some (lowN n 8)) (fun k => ?_) (Ev.now _)
      simp only [aead_low.l0]
      rw [if_neg (by omega)]
    | succ d ih =>
      intro i hd hi
      have hl := lowN_length n i
      refine Ev.step (f := fun k => aead_low.l0 k n (lowN n (i + 1)) ((i + 1 : Nat) : Int)) (fun k => ?_) (ih (i + 1) (by omega) (by omega))
      simp only [aead_low.l0]
      rw [w64 (n := 8 * (i : Int)) (by omega) (by omega), w64 (n := (i : Int) + 1) (by omega) (by omega), if_pos (by omega), if_pos (by omega), if_pos (by omega)]
      rfl
  exact key 8 0 rfl (by omega)
theorem low_rounds (n : Int) : ∃ k, aead_low.f k n = some (lowN n 8) := (low_ev n).rounds
theorem padB_length (b : List Int) : (padB b).length = b.length + ((16 - ((b.length : Int) % 16)) % 16 : Int).toNat := by rw [padB, List.length_append, List.length_replicate]
theorem filled_ev (a b c : List Int) (ha : a.length ≤ 68719476736) (hb : b.length ≤ 68719476736) (hc : c.length ≤ 68719476736) : Ev (fun k => aead_filled.f k [a, b, c]) (padB a ++ padB b ++ padB c) := by
  unfold aead_filled.f
  have step : ∀ (out x : List Int) (i j : Int) (r : List Int), out.length ≤ 300000000000 → x.length ≤ 68719476736 → 0 ≤ i → i < 3 → j = i + 1 → rd_L3 [a, b, c] i = x → Ev (fun k => aead_filled.l0 k (out ++ padB x) [a, b, c] 3 j) r → Ev (fun k => aead_filled.l0 k out [a, b, c] 3 i) r := by
    intro out x i j r ho hx h0 h1 hj hr h
    subst hj
    refine Ev.step (f := fun k => aead_filled.l0 k (out ++ padB x) [a, b, c] 3 (i + 1)) (fun k => ?_) h
    simp only [aead_filled.l0, hr]
    rw [w64 (n := i + 1) (by omega) (by omega), if_pos h1, if_pos h0, if_pos (by simp only [List.length_cons, List.length_nil]; omega), if_pos (by omega)]
    simp only [Option.bind_some]
    rw [if_pos (by omega), if_pos (by rw [List.length_append]; omega), padB, List.append_assoc]
  have hpa := padB_length a
  have hpb := padB_length b
  refine step [] a 0 1 _ (by simp) ha (by decide) (by decide) rfl rfl ?_
  rw [List.nil_append]
  refine step (padB a) b 1 2 _ (by omega) hb (by decide) (by decide) rfl rfl ?_
  refine step (padB a ++ padB b) c 2 3 _ (by rw [List.length_append]; omega) hc (by decide) (by decide) rfl rfl ?_
  refine Ev.step (f := fun _ => some (padB a ++ padB b ++ padB c)) (fun k => ?_) (Ev.now _)
  simp only [aead_filled.l0]
  rw [if_neg (by decide)]
theorem filled_rounds (a b c : List Int) (ha : a.length ≤ 68719476736) (hb : b.length ≤ 68719476736) (hc : c.length ≤ 68719476736) : ∃ k, aead_filled.f k [a, b, c] = some (padB a ++ padB b ++ padB c) := (filled_ev a b c ha hb hc).rounds
end Go.Proofs.Ytllaobhheokafaa.F
