/- What the calls of these Go functions answer (contracts): sha_Sum. Each under the conditions that it states. -/
import Derived.Test.YtkennblgbfhjiaaGreatDoorC0
import Derived.Test.YtkennblgbfhjiaaGreatDoorB7
import Derived.Test.YtkennblgbfhjiaaGreatDoorDsha
namespace Go.Proofs.YtkennblgbfhjiaaGreatDoor.Q
open Go.RowKit Go.Proofs.YtkennblgbfhjiaaGreatDoorW.PrintWords Go.Proofs.YtkennblgbfhjiaaGreatDoorW.PrintLast Go.Proofs.YtkennblgbfhjiaaGreatDoorW.PrintMore
attribute [local go_sem] max2_int min2_int max_two min_two max_three min_three max_four min_four   -- for this text's walks alone
set_option linter.unusedVariables false
set_option linter.unusedSimpArgs false

/-! ### sha_Sum: function 130 -/
open Go.Proofs.YtkennblgbfhjiaaGreatDoor.H
theorem sha_Sum.calls (A0 : Option Addr) (c0 : Nat) (l0 : List Int) (r : List Int) (w : World) (hr0 : Kd.C (Kd.int .u8) w A0 l0.length l0) (hc0 : l0.length ≤ c0) (h : sha_Sum.f l0 = some r) :
    Calls Tryz.prog 130 #[.slice A0 l0.length c0] w fun e w' => ∃ v0_ : Value, e = .returned (v0_) ∧ Kd.R (Kd.int .u8) 5 w' w.heap.size (fun _ => True) v0_ r ∧ Below w.heap.size w w' := by
  unfold sha_Sum.f at h
  split at h
  · rename_i hm
    obtain rfl := Option.some.inj h
    refine (sum_any A0 c0 l0 w hr0 hc0 hm).mono ?_
    rintro e w' ⟨v, rfl, h1, h2⟩
    exact ⟨v, rfl, h1.toR, h2⟩
  · cases h

end Go.Proofs.YtkennblgbfhjiaaGreatDoor.Q
