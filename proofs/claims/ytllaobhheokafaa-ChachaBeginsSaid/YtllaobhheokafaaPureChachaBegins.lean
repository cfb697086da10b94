/- The beginning of a text comes to the beginning of what the whole comes to; what is behind 64 bytes goes by the next counter: the pure statement. -/
import Derived.Test.YtllaobhheokafaaDChachaBegins
import Derived.Test.YtllaobhheokafaaFchacha
namespace Go.Proofs.Ytllaobhheokafaa.Pure
open Go.RowKit Go.Proofs.Ytllaobhheokafaa.Q Go.Proofs.Ytllaobhheokafaa.F Go.Proofs.YtllaobhheokafaaW.PrintWords Go.Proofs.YtllaobhheokafaaW.PrintLast Go.Proofs.YtllaobhheokafaaW.PrintMore
set_option linter.unusedVariables false

theorem ChachaBegins : casketlaw15_ChachaBegins.Pure := by
  intro l0 a1 l2 b a4 _ hl0 _ ha1 _ hl2 _ _ hlb hb _
  have ha := wf_u32 ha1
  apply Ev.rounds
  unfold casketlaw15_ChachaBegins.f
  simp only [awake15, Option.bind_some]
  by_cases hbig : (b.length : Int) > 1000
  · simp only [if_pos hbig]; exact Ev.now _
  simp only [if_neg hbig]
  by_cases h : l0.length = 32 ∧ l2.length = 12
  · have hlx := streamW_length l0 a1 l2 b
    simp only [stream_f _ l0 a1 l2 b h.1 h.2 (by omega) ha]
    by_cases hl : ((b.length : Int) + 63) / 64 ≤ 4294967296 - a1
    · simp only [if_pos hl, Option.bind_some, if_true, hlx]
      obtain ⟨k, hk⟩ : ∃ k : Nat, (k : Int) = mn (Go.bits .and .i64 a4 1023) (b.length : Int) := by
        have h1 : 0 ≤ Go.bits .and .i64 a4 1023 := and1023 a4
        refine ⟨(mn (Go.bits .and .i64 a4 1023) (b.length : Int)).toNat, ?_⟩
        unfold mn
        split <;> omega
      have hkb : k ≤ b.length := by
        have : mn (Go.bits .and .i64 a4 1023) (b.length : Int) ≤ b.length := by unfold mn; split <;> omega
        omega
      have q1 : 0 ≤ (k : Int) := by omega
      have q2 : (k : Int) ≤ (b.length : Int) := by omega
      have hlt : (b.take k).length = k := by rw [List.length_take]; omega
      simp only [← hk, if_pos q1, if_pos q2, Int.toNat_natCast]
      simp only [stream_f _ l0 a1 l2 (b.take k) h.1 h.2 (by omega) ha, hlt, if_pos (by omega : ((k : Int) + 63) / 64 ≤ 4294967296 - a1), Option.bind_some, if_true, stream_take]
      have := same15_ev (streamW l0 a1 l2 (b.take k)) (streamW l0 a1 l2 (b.take k)) (by rw [streamW_length]; omega)
      simp only [decide_true] at this
      refine Ev.bind this ?_
      simp only [Bool.not_true]
      by_cases h64 : (b.length : Int) ≤ 64
      · refine Ev.step (f := fun _ => some true) (fun k => ?_) (Ev.now _)
        simp only [casketlaw15_ChachaBegins.j0, if_neg Bool.false_ne_true, if_pos h64]
      · have hld : (b.drop 64).length = b.length - 64 := List.length_drop
        refine Ev.step (f := fun k => (casketlaw15_same.f k (streamW l0 ((a1 + 1) % 4294967296) l2 (b.drop 64)) (streamW l0 ((a1 + 1) % 4294967296) l2 (b.drop 64))).bind fun t => some t) (fun k => ?_) ?_
        · simp only [casketlaw15_ChachaBegins.j0, if_neg Bool.false_ne_true, if_neg h64]
          rw [if_pos (by omega), stream_f _ l0 _ l2 (b.drop 64) h.1 h.2 (by omega) (by omega), if_pos (by omega)]
          simp only [Option.bind_some, if_true, hlx, stream_drop]
          rw [if_pos (by omega)]
        · have := same15_ev (streamW l0 ((a1 + 1) % 4294967296) l2 (b.drop 64)) (streamW l0 ((a1 + 1) % 4294967296) l2 (b.drop 64)) (by rw [streamW_length]; omega)
          simp only [decide_true] at this
          exact Ev.bind this (Ev.now _)
    · simp only [if_neg hl, Option.bind_some]
      exact Ev.now _
  · simp only [stream_f_none _ l0 a1 l2 b h, Option.bind_some]
    exact Ev.now _

end Go.Proofs.Ytllaobhheokafaa.Pure
