/- What the calls of these Go functions answer (contracts): casketlaw13_awake. Each under the conditions that it states. -/
import Derived.Test.YtgdogjnjbinoiaaC0
import Derived.Lib.SmallJoins
import Derived.Test.YtgdogjnjbinoiaaB7
import Derived.Test.YtgdogjnjbinoiaaDsha
namespace Go.Proofs.Ytgdogjnjbinoiaa.Q
open Go.RowKit Go.Proofs.YtgdogjnjbinoiaaW.PrintWords Go.Proofs.YtgdogjnjbinoiaaW.PrintLast Go.Proofs.YtgdogjnjbinoiaaW.PrintMore
attribute [local go_sem] max2_int min2_int max_two min_two max_three min_three max_four min_four   -- for this text's walks alone
set_option linter.unusedVariables false
set_option linter.unusedSimpArgs false

/-! ### casketlaw13_awake: function 19 -/
open Go.Proofs.Ytgdogjnjbinoiaa.H Go.Joins
theorem abc3 : (shaW [97, 98, 99]).take 3 = [186, 120, 22] := by kernel_rfl
theorem nil2 : (shaW []).take 2 = [227, 176] := by kernel_rfl
theorem rd_of_take {l : List Int} {n : Nat} {m : List Int} (h : l.take n = m) (i : Nat) (hi : i < n) : rd l i = rd m i := by
  subst h
  unfold rd
  rw [List.getD_eq_getElem?_getD, List.getD_eq_getElem?_getD, List.getElem?_take_of_lt (by omega)]
/-- A literal's bytes, behind the conversion. -/
theorem lit_readsC (w : World) (l : List Int) (t : TypeId) (fr : Nat × Nat) (hl : l.length ≤ 9223372036854775807) : Kd.C (Kd.int .u8) (w.alloc (.cells (nums .u8 l).toArray t fr)) (some ⟨w.heap.size, 0, none⟩) l.length l := by
  refine Kd.C_of_reads (enc := Value.int .u8) (d := (0 : Int)) (h1 := fun _ => rfl) ⟨rfl, hl, fun _ => ⟨_, rfl, fun j hj => ?_⟩⟩
  rw [Addr.add_mid, Nat.zero_add, cell_alloc_mark_at w _ t fr _ j rfl]
  simp [nums, List.getD_eq_getElem?_getD, hj]
set_option maxHeartbeats 1000000 in
set_option maxRecDepth 100000 in
theorem awake13_any (w : World) : Calls Try.prog 19 #[] w fun e w' => e = .returned (.bool true) ∧ Below w.heap.size w w' := by
  have hconv := run_convert_bytes_const_at (P := Try.prog) w 22 5 #[.int .u8 97, .int .u8 98, .int .u8 99] 3 3 w.heap.size rfl (by kernel_rfl) (by kernel_rfl)
  have L0 := Aside0.mk ((Below.refl w.heap.size w).alloc (Nat.le_refl _) (.cells #[.int .u8 97, .int .u8 98, .int .u8 99] 5 (3, 4)))
  go_enter Try.func19, Try.ntmps19
  go_wp2_with fail
  refine (sum_any (some ⟨w.heap.size, 0, none⟩) 3 [97, 98, 99] _ (lit_readsC w [97, 98, 99] 5 (3, 4) (by decide)) (by decide) (by decide)).mono ?_
  rintro e w1 ⟨v1, rfl, O1, l1⟩
  have L1 := Aside0.mk (below_then L0.out (by simp) l1)
  replace O1 := Aside0.mk O1
  clear l1 L0 hconv
  go_wp2_with fail
  refine (sum_any none 0 [] _ (Kd.C_of_reads (enc := Value.int .u8) (d := (0 : Int)) (h1 := fun _ => rfl) ⟨rfl, by decide, fun h => by cases h⟩) (by decide) (by decide)).mono ?_
  rintro e w2 ⟨v2, rfl, O2, l2⟩
  replace L1 := Aside0.mk (below_then L1.out (L1.out.size) l2)
  replace O1 := O1.out.below l2
  clear l2
  have h1 := shaW_length [97, 98, 99]
  have h2 := shaW_length []
  obtain ⟨g1, c1, rfl, _, _, C1⟩ := O1.cells (by rw [h1]; decide)
  obtain ⟨g2, c2, rfl, _, _, C2⟩ := O2.cells (by rw [h2]; decide)
  have a0 := C1 0 (by rw [h1]; decide)
  have a1 := C1 1 (by rw [h1]; decide)
  have a2 := C1 2 (by rw [h1]; decide)
  have b0 := C2 0 (by rw [h2]; decide)
  have b1 := C2 1 (by rw [h2]; decide)
  rw [rd_of_take abc3 _ (by decide)] at a0 a1 a2
  rw [rd_of_take nil2 _ (by decide)] at b0 b1
  rw [h1, h2]
  change w2.cell? _ = some (.int .u8 186) at a0
  change w2.cell? _ = some (.int .u8 120) at a1
  change w2.cell? _ = some (.int .u8 22) at a2
  change w2.cell? _ = some (.int .u8 227) at b0
  change w2.cell? _ = some (.int .u8 176) at b1
  clear C1 C2 O1 O2 h1 h2
  go_wp2
  go_ret
  exact ⟨rfl, L1.out⟩
theorem casketlaw13_awake.calls (r : Bool) (w : World) (h : casketlaw13_awake.f = some r) :
    Calls Try.prog 19 #[] w fun e w' => e = .returned (.bool r) ∧ Below w.heap.size w w' := by
  have ha : casketlaw13_awake.f = some true := by kernel_rfl
  rw [ha] at h
  obtain rfl := Option.some.inj h
  exact awake13_any w

end Go.Proofs.Ytgdogjnjbinoiaa.Q
