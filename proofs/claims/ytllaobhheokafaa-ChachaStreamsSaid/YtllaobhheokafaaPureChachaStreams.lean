/- What any bytes come to under any key, counter and nonce, or why to nothing, is the reference's: the pure statement. -/
import Derived.Test.YtllaobhheokafaaDChachaStreams
import Derived.Test.YtllaobhheokafaaFchacha
namespace Go.Proofs.Ytllaobhheokafaa.Pure
open Go.RowKit Go.Proofs.Ytllaobhheokafaa.Q Go.Proofs.Ytllaobhheokafaa.F Go.Proofs.YtllaobhheokafaaW.PrintWords Go.Proofs.YtllaobhheokafaaW.PrintLast Go.Proofs.YtllaobhheokafaaW.PrintMore
set_option linter.unusedVariables false

theorem ChachaStreams : casketlaw15_ChachaStreams.Pure := by
  intro l0 a1 l2 b _ hl0 _ ha1 _ hl2 _ _ hlb hb
  have ha := wf_u32 ha1
  apply Ev.rounds
  unfold casketlaw15_ChachaStreams.f
  simp only [awake15, Option.bind_some, if_true]
  by_cases hbig : (b.length : Int) > 1000
  · simp only [if_pos hbig]; exact Ev.now _
  simp only [if_neg hbig]
  by_cases h : l0.length = 32 ∧ l2.length = 12
  · have hs := refstream_ev l0 a1 l2 b h.1 h.2 (by omega) ha
    simp only [stream_f _ l0 a1 l2 b h.1 h.2 (by omega) ha]
    by_cases hl : ((b.length : Int) + 63) / 64 ≤ 4294967296 - a1
    · simp only [if_pos hl, Option.bind_some] at hs ⊢
      refine Ev.bind hs ?_
      simp only [if_true]
      have := same15_ev (streamW l0 a1 l2 b) (streamW l0 a1 l2 b) (by rw [streamW_length]; omega)
      simp only [decide_true] at this
      exact Ev.bind this (Ev.now _)
    · simp only [if_neg hl, Option.bind_some] at hs ⊢
      refine Ev.bind hs ?_
      simp only [if_true]
      have := same15_ev [] [] (by simp)
      simp only [decide_true] at this
      exact Ev.bind this (Ev.now _)
  · simp only [stream_f_none _ l0 a1 l2 b h, Option.bind_some]
    refine Ev.bind (refstream_none l0 a1 l2 b h) ?_
    simp only [if_true]
    have := same15_ev [] [] (by simp)
    simp only [decide_true] at this
    exact Ev.bind this (Ev.now _)

end Go.Proofs.Ytllaobhheokafaa.Pure
