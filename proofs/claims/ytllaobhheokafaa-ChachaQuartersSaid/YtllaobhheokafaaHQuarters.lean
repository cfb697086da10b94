/- What the call of casketlaw15.ChachaQuarters answers: true, for every four words; nothing below the memory that it makes is turned. -/
import Derived.Test.YtllaobhheokafaaC0
import Derived.Test.YtllaobhheokafaaCchachab
import Derived.Test.YtllaobhheokafaaCref15a
import Derived.Test.YtllaobhheokafaaFchacha
namespace Go.Proofs.Ytllaobhheokafaa.Q
open Go.RowKit Go.Proofs.YtllaobhheokafaaW.PrintWords Go.Proofs.YtllaobhheokafaaW.PrintLast Go.Proofs.YtllaobhheokafaaW.PrintMore
set_option linter.unusedVariables false
set_option linter.unusedSimpArgs false
set_option maxHeartbeats 1000000 in
set_option maxRecDepth 100000 in
theorem quarters_any (a b c d : Int) (w : World) :
    Calls Try.prog 3 #[.agg #[.int .u32 a, .int .u32 b, .int .u32 c, .int .u32 d]] w fun e w' => e = .returned (.bool true) ∧ Below w.heap.size w w' := by
  have haw := Aside0.mk F.awake15
  go_enter Try.func3, Try.ntmps3
  go_wp2_with (first | (go_at_call 20; with_reducible refine (casketlaw15_awake.calls true _ haw.out).mono ?_; rintro e w' ⟨rfl, ⟨nd, rfl⟩⟩) | (go_at_call 21; with_reducible refine (quarter_any _ _ _ _ _).mono ?_; rintro e w' ⟨rfl, ⟨nd, rfl⟩⟩) | (go_at_call 22; with_reducible refine (refquarter_any _ _ _ _ _).mono ?_; rintro e w' ⟨rfl, ⟨nd, rfl⟩⟩))
  go_ret
  exact ⟨rfl, by repeat (first | (with_reducible exact Below.refl _ _) | apply pw_below_drewN | apply below_alloc)⟩
end Go.Proofs.Ytllaobhheokafaa.Q
