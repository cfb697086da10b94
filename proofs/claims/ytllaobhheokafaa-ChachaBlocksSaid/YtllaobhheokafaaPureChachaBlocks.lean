/- The block of any key, counter and nonce, or that they are none, is the reference's: the pure statement, for lists of bytes and a counter of any value. -/
import Derived.Test.YtllaobhheokafaaDChachaBlocks
import Derived.Test.YtllaobhheokafaaFchacha
namespace Go.Proofs.Ytllaobhheokafaa.Pure
open Go.RowKit Go.Proofs.Ytllaobhheokafaa.Q Go.Proofs.Ytllaobhheokafaa.F Go.Proofs.YtllaobhheokafaaW.PrintWords Go.Proofs.YtllaobhheokafaaW.PrintLast Go.Proofs.YtllaobhheokafaaW.PrintMore
set_option linter.unusedVariables false

theorem ChachaBlocks : casketlaw15_ChachaBlocks.Pure := by
  intro l0 a1 l2 _ hl0 _ _ _ hl2 _
  apply Ev.rounds
  unfold casketlaw15_ChachaBlocks.f
  simp only [awake15, Option.bind_some, if_true]
  by_cases h : l0.length = 32 ∧ l2.length = 12
  · simp only [block_f l0 a1 l2 h.1 h.2, Option.bind_some]
    refine Ev.bind (refblock_ev l0 a1 l2 h.1 h.2) ?_
    simp only [if_true]
    have := same15_ev (blockW l0 a1 l2) (blockW l0 a1 l2) (by rw [blockW_length]; omega)
    simp only [decide_true] at this
    exact Ev.bind this (Ev.now _)
  · simp only [block_f_none l0 a1 l2 h, Option.bind_some]
    refine Ev.bind (refblock_none l0 a1 l2 h) ?_
    simp only [if_true]
    have := same15_ev [] [] (by simp)
    simp only [decide_true] at this
    exact Ev.bind this (Ev.now _)

end Go.Proofs.Ytllaobhheokafaa.Pure
