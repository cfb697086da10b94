/- What the calls of these Go functions answer (contracts): merkle_Rebuild. Each under the conditions that it states. -/
import Derived.Test.YtgdogjnjbinoiaaDoorDshaX
import Derived.Test.YtgdogjnjbinoiaaDoorHreb2
import Derived.Test.YtgdogjnjbinoiaaDoorDmrebX
namespace Go.Proofs.YtgdogjnjbinoiaaDoor.Q
open Go.RowKit Go.Proofs.YtgdogjnjbinoiaaDoorW.PrintWords Go.Proofs.YtgdogjnjbinoiaaDoorW.PrintLast Go.Proofs.YtgdogjnjbinoiaaDoorW.PrintMore
attribute [local go_sem] max2_int min2_int max_two min_two max_three min_three max_four min_four   -- for this text's walks alone
set_option linter.unusedVariables false
set_option linter.unusedSimpArgs false

/-! ### merkle_Rebuild: function 23 -/
theorem merkle_Rebuild.calls (a0 : Int) (a1 : Int) (A2 : Option Addr) (c2 : Nat) (l2 : List (List Int)) (A3 : Option Addr) (c3 : Nat) (l3 : List (List Int)) (r1 : List Int) (r2 : Int) (w : World) (hr2 : Kd.C (Kd.slice 5 (Kd.int .u8)) w A2 l2.length l2) (hc2 : l2.length ≤ c2) (hr3 : Kd.C (Kd.slice 5 (Kd.int .u8)) w A3 l3.length l3) (hc3 : l3.length ≤ c3) (h : merkle_Rebuild.f a0 a1 l2 l3 = some (r1, r2)) (htab : TabAt w) :
    Calls Tryd.prog 23 #[.int .i64 a0, .int .i64 a1, .slice A2 l2.length c2, .slice A3 l3.length c3] w fun e w' => ∃ v0_ : Value, e = .returned (.tuple #[v0_, .int .i64 r2]) ∧ Kd.R (Kd.int .u8) 5 w' w.heap.size (fun _ => True) v0_ r1 ∧ Below w.heap.size w w' := by
  unfold merkle_Rebuild.f at h
  split at h
  · rename_i hh
    have := rebuild_any a0 a1 A2 c2 l2 A3 c3 l3 w hr2 hc2 hr3 hc3 hh.1.1 hh.1.2 hh.2.1 hh.2.2 htab
    rw [Option.some.inj h] at this
    exact this
  · cases h

end Go.Proofs.YtgdogjnjbinoiaaDoor.Q
