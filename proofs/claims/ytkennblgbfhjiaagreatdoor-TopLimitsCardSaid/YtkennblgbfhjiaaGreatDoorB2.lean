import Derived.Test.YtkennblgbfhjiaaGreatDoorC0
import Derived.Test.YtkennblgbfhjiaaGreatDoorPsha
import Derived.Test.YtkennblgbfhjiaaGreatDoorCshab
import Derived.Test.YtkennblgbfhjiaaGreatDoorHarr
import Derived.Test.YtkennblgbfhjiaaGreatDoorB1
namespace Go.Proofs.YtkennblgbfhjiaaGreatDoor.Q
open Go.RowKit Go.Proofs.YtkennblgbfhjiaaGreatDoorW.PrintWords Go.Proofs.YtkennblgbfhjiaaGreatDoorW.PrintLast Go.Proofs.YtkennblgbfhjiaaGreatDoorW.PrintMore Go.Proofs.YtkennblgbfhjiaaGreatDoor.H
set_option linter.unusedVariables false
set_option linter.unusedSimpArgs false
set_option maxHeartbeats 1000000 in
set_option maxRecDepth 100000 in
theorem table_any (w : World) : Calls Tryz.prog 270 #[] w fun e w' => e = .returned (.agg (nums .u32 kTable).toArray) ∧ Below w.heap.size w w' := by
  go_enter Tryz.func270, Tryz.ntmps270
  go_wp2_with (refine store_blk rfl _ _ _ rfl rfl kTable rfl (Blk.at0 _ _ .u32 (List.replicate 64 0) _ rfl) 64 (by kernel_rfl) rfl rfl ?_; intro w3 B3 g3 z3; replace B3 := Aside0.mk B3; replace g3 := Aside0.mk g3; replace z3 := Aside0.mk z3)
  refine bodyPost_ret (results_blk rfl _ rfl B3.out 64 96 (by kernel_rfl) (by kernel_rfl) rfl) rfl ⟨rfl, ?_⟩
  exact ((Below.refl _ _).alloc (Nat.le_refl _) _).grown g3.out (by simp) (by simp)
set_option maxHeartbeats 1000000 in
theorem first_any (w : World) : Calls Tryz.prog 233 #[] w fun e w' => e = .returned (.agg (nums .u32 hFirst).toArray) ∧ Below w.heap.size w w' := by
  go_enter Tryz.func233, Tryz.ntmps233
  go_wp2_with (refine store_blk rfl _ _ _ rfl rfl hFirst rfl (Blk.at0 _ _ .u32 (List.replicate 8 0) _ rfl) 8 (by kernel_rfl) rfl rfl ?_; intro w3 B3 g3 z3; replace B3 := Aside0.mk B3; replace g3 := Aside0.mk g3; replace z3 := Aside0.mk z3)
  refine bodyPost_ret (results_blk rfl _ rfl B3.out 8 96 (by kernel_rfl) (by kernel_rfl) rfl) rfl ⟨rfl, ?_⟩
  exact ((Below.refl _ _).alloc (Nat.le_refl _) _).grown g3.out (by simp) (by simp)
end Go.Proofs.YtkennblgbfhjiaaGreatDoor.Q
