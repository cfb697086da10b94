import Derived.Test.YtgdogjnjbinoiaaDoorDshaX
import Derived.Test.YtgdogjnjbinoiaaDoorDshabX
import Derived.Test.YtgdogjnjbinoiaaDoorDmerkX
import Derived.Test.YtgdogjnjbinoiaaDoorHarr
import Derived.Test.YtgdogjnjbinoiaaDoorB1
namespace Go.Proofs.YtgdogjnjbinoiaaDoor.Q
open Go.RowKit Go.Proofs.YtgdogjnjbinoiaaDoorW.PrintWords Go.Proofs.YtgdogjnjbinoiaaDoorW.PrintLast Go.Proofs.YtgdogjnjbinoiaaDoorW.PrintMore Go.Proofs.YtgdogjnjbinoiaaDoor.H
set_option linter.unusedVariables false
set_option linter.unusedSimpArgs false
set_option maxHeartbeats 1000000 in
set_option maxRecDepth 100000 in
theorem table_any (w : World) : Calls Tryd.prog 63 #[] w fun e w' => e = .returned (.agg (nums .u32 kTable).toArray) ∧ Below w.heap.size w w' := by
  go_enter Tryd.func63, Tryd.ntmps63
  go_wp2_with (refine store_blk rfl _ _ _ rfl rfl kTable rfl (Blk.at0 _ _ .u32 (List.replicate 64 0) _ rfl) 64 (by kernel_rfl) rfl rfl ?_; intro w3 B3 g3 z3; replace B3 := Aside0.mk B3; replace g3 := Aside0.mk g3; replace z3 := Aside0.mk z3)
  refine bodyPost_ret (results_blk rfl _ rfl B3.out 64 62 (by kernel_rfl) (by kernel_rfl) rfl) rfl ⟨rfl, ?_⟩
  exact ((Below.refl _ _).alloc (Nat.le_refl _) _).grown g3.out (by simp) (by simp)
set_option maxHeartbeats 1000000 in
theorem first_any (w : World) : Calls Tryd.prog 55 #[] w fun e w' => e = .returned (.agg (nums .u32 hFirst).toArray) ∧ Below w.heap.size w w' := by
  go_enter Tryd.func55, Tryd.ntmps55
  go_wp2_with (refine store_blk rfl _ _ _ rfl rfl hFirst rfl (Blk.at0 _ _ .u32 (List.replicate 8 0) _ rfl) 8 (by kernel_rfl) rfl rfl ?_; intro w3 B3 g3 z3; replace B3 := Aside0.mk B3; replace g3 := Aside0.mk g3; replace z3 := Aside0.mk z3)
  refine bodyPost_ret (results_blk rfl _ rfl B3.out 8 62 (by kernel_rfl) (by kernel_rfl) rfl) rfl ⟨rfl, ?_⟩
  exact ((Below.refl _ _).alloc (Nat.le_refl _) _).grown g3.out (by simp) (by simp)
end Go.Proofs.YtgdogjnjbinoiaaDoor.Q
