/- What the calls of these Go functions answer (contracts): merkle_Prove. Each under the conditions that it states.
   What the calls of these Go functions answer (contracts): merkle_Root. Each under the conditions that it states. -/
import Derived.Test.YtgdogjnjbinoiaaDoorDshaX
import Derived.Test.YtgdogjnjbinoiaaDoorHprove
import Derived.Test.YtgdogjnjbinoiaaDoorDmprove
import Derived.Test.YtgdogjnjbinoiaaDoorHroot
import Derived.Test.YtgdogjnjbinoiaaDoorDmrootX
/-! ### Cmprove -/
section
namespace Go.Proofs.YtgdogjnjbinoiaaDoor.Q
open Go.RowKit Go.Proofs.YtgdogjnjbinoiaaDoorW.PrintWords Go.Proofs.YtgdogjnjbinoiaaDoorW.PrintLast Go.Proofs.YtgdogjnjbinoiaaDoorW.PrintMore
attribute [local go_sem] max2_int min2_int max_two min_two max_three min_three max_four min_four   -- for this text's walks alone
set_option linter.unusedVariables false
set_option linter.unusedSimpArgs false

/-! ### merkle_Prove: function 12 -/
theorem merkle_Prove.calls (A0 : Option Addr) (c0 : Nat) (l0 : List (List Int)) (a1 : Int) (a2 : Int) (r1 : List (List Int)) (r2 : Int) (w : World) (hr0 : Kd.C (Kd.slice 5 (Kd.int .u8)) w A0 l0.length l0) (hc0 : l0.length ≤ c0) (h : merkle_Prove.f l0 a1 a2 = some (r1, r2)) (htab : TabAt w) :
    Calls Tryd.prog 12 #[.slice A0 l0.length c0, .int .i64 a1, .int .i64 a2] w fun e w' => ∃ v0_ : Value, e = .returned (.tuple #[v0_, .int .i64 r2]) ∧ Kd.S (Kd.slice 5 (Kd.int .u8)) 31 w' w.heap.size (fun _ => True) v0_ r1 ∧ Below w.heap.size w w' := by
  unfold merkle_Prove.f at h
  split at h
  · rename_i hh
    have := prove_any A0 c0 l0 a1 a2 w hr0 hc0 hh.1 hh.2 htab
    rw [Option.some.inj h] at this
    exact this
  · cases h

end Go.Proofs.YtgdogjnjbinoiaaDoor.Q
end
/-! ### Cmroot -/
section
namespace Go.Proofs.YtgdogjnjbinoiaaDoor.Q
open Go.RowKit Go.Proofs.YtgdogjnjbinoiaaDoorW.PrintWords Go.Proofs.YtgdogjnjbinoiaaDoorW.PrintLast Go.Proofs.YtgdogjnjbinoiaaDoorW.PrintMore
attribute [local go_sem] max2_int min2_int max_two min_two max_three min_three max_four min_four   -- for this text's walks alone
set_option linter.unusedVariables false
set_option linter.unusedSimpArgs false

/-! ### merkle_Root: function 16 -/
theorem merkle_Root.calls (A0 : Option Addr) (c0 : Nat) (l0 : List (List Int)) (r : List Int) (w : World) (hr0 : Kd.C (Kd.slice 5 (Kd.int .u8)) w A0 l0.length l0) (hc0 : l0.length ≤ c0) (h : merkle_Root.f l0 = some r) (htab : TabAt w) :
    Calls Tryd.prog 16 #[.slice A0 l0.length c0] w fun e w' => ∃ v0_ : Value, e = .returned (v0_) ∧ Kd.R (Kd.int .u8) 5 w' w.heap.size (fun _ => True) v0_ r ∧ Below w.heap.size w w' := by
  unfold merkle_Root.f at h
  split at h
  · rename_i hh
    obtain rfl := Option.some.inj h
    exact root_any A0 c0 l0 w hr0 hc0 hh.1 hh.2 htab
  · cases h

end Go.Proofs.YtgdogjnjbinoiaaDoor.Q
end
