import Derived.Test.YtkennblgbfhjiaaGreatDoorB10
namespace Go.Proofs.YtkennblgbfhjiaaGreatDoor.Q
open Go.RowKit Go.Proofs.YtkennblgbfhjiaaGreatDoorW.PrintWords Go.Proofs.YtkennblgbfhjiaaGreatDoorW.PrintLast Go.Proofs.YtkennblgbfhjiaaGreatDoorW.PrintMore Go.Proofs.YtkennblgbfhjiaaGreatDoor.H
set_option linter.unusedVariables false
set_option linter.unusedSimpArgs false
theorem macW_length (key : List Int) (bs : List (List Int)) : (macW key bs).length = 32 := summedW_length _ _ _
set_option maxHeartbeats 1000000 in
set_option maxRecDepth 100000 in
theorem mac_any (A : Option Addr) (c : Nat) (key : List Int) (A1 : Option Addr) (c1 : Nat) (b : List Int) (w : World) (hr : Kd.C (Kd.int .u8) w A key.length key) (hc : key.length ≤ c) (hr1 : Kd.C (Kd.int .u8) w A1 b.length b) (hc1 : b.length ≤ c1) (hk : key.length ≤ 549755813888) (hb : b.length ≤ 274877906944) :
    Calls Tryz.prog 89 #[.slice A key.length c, .slice A1 b.length c1] w fun e w' => ∃ v, e = .returned v ∧ Own w' w.heap.size 5 .u8 v (macW key [b]) ∧ Below w.heap.size w w' := by
  have L0 := Aside0.mk ((Below.refl w.heap.size w).alloc (Nat.le_refl _) (.cells #[.slice A1 b.length c1] 25))
  have HR := Aside0.mk hr
  have HI : Aside0 (Lists (w.alloc (.cells #[.slice A1 b.length c1] 25)) w.heap.size [b]) := ⟨⟨fun j hj => by
    obtain rfl : j = 0 := by simpa using hj
    exact ⟨A1, c1, cell_alloc_mark_at2 w _ _ (0, 0) 0, Kd.C_below hr1 L0.out, hc1⟩⟩⟩
  clear hr hr1
  go_enter Tryz.func89, Tryz.ntmps89
  go_wp2_with fail
  refine (all_any A c key w.heap.size 1 1 [b] _ (Kd.C_below HR.out L0.out) hc hk HI.out (by simp) rfl (by simpa using hb) (by decide)).mono ?_
  rintro e w1 ⟨v, rfl, O1, l1⟩
  have L1 := Aside0.mk (below_then L0.out (by simp) l1)
  replace O1 := Aside0.mk (O1.lower (b2 := w.heap.size) (by simp))
  clear l1
  go_wp2
  go_ret
  exact ⟨_, rfl, O1.out, L1.out⟩
end Go.Proofs.YtkennblgbfhjiaaGreatDoor.Q
