import Derived.Test.YtllaobhheokafaaPpoly
import Derived.Test.YtllaobhheokafaaC0
import Derived.Test.YtllaobhheokafaaHmem
import Derived.Test.YtllaobhheokafaaP1
import Derived.Test.YtllaobhheokafaaP3
namespace Go.Proofs.Ytllaobhheokafaa.Q
open Go.RowKit Go.Proofs.YtllaobhheokafaaW.PrintWords Go.Proofs.YtllaobhheokafaaW.PrintLast Go.Proofs.YtllaobhheokafaaW.PrintMore Go.Proofs.Ytllaobhheokafaa.H
set_option linter.unusedVariables false
set_option linter.unusedSimpArgs false
set_option maxHeartbeats 2000000 in
theorem whole_core (l m q : List Int) (w : World) (hl : l.length = 5) (h1 : carW (carW l) = m) (h2 : upN (m.set 0 (IntKind.u64.wrap (rd m 0 + 5))) 4 = q) :
    Calls Try.prog 51 #[.agg (nums .u64 l).toArray] w fun e w' => e = .returned (.agg (nums .u64 (if rd q 4 / 67108864 = 0 then m else q.set 4 (Go.bits .and .u64 (rd q 4) 67108863))).toArray) ∧ Below w.heap.size w w' := by
  have B0 := Aside0.mk ((Blk.at0 w 58 .u64 l _ rfl).alloc (.cells (nums .u64 (List.replicate 5 0)).toArray 58))
  have Z0 := Aside0.mk (Blk.at1 w (.cells (nums .u64 l).toArray 58) 58 .u64 (List.replicate 5 0) _ rfl)
  have L0 := Aside0.mk (((Below.refl w.heap.size w).alloc (Nat.le_refl _) (.cells (nums .u64 l).toArray 58)).alloc (by simp) (.cells (nums .u64 (List.replicate 5 0)).toArray 58))
  have hl1 : (carW l).length = 5 := by rw [carW_length, hl]
  have hl2 : m.length = 5 := by rw [← h1, carW_length, hl1]
  have hl3 : (m.set 0 (IntKind.u64.wrap (rd m 0 + 5))).length = 5 := by rw [List.length_set, hl2]
  have hl4 : q.length = 5 := by rw [← h2, upN_length, hl3]
  have E1 := Aside0.mk h1
  have E2 := Aside0.mk h2
  clear h1 h2
  go_enter Try.func51, Try.ntmps51
  go_wp2_with (refine load_blk rfl _ _ rfl rfl B0.out 5 56 (by kernel_rfl) (by kernel_rfl) hl ?_)
  refine (carried_any l _ hl).mono ?_
  rintro e w1 ⟨rfl, l1⟩
  have L1 := Aside0.mk (below_then L0.out (by simp; omega) l1)
  have B1 := Aside0.mk (B0.out.below l1)
  have Z1 := Aside0.mk (Z0.out.below l1)
  have s1 : w.heap.size + 2 ≤ w1.heap.size := by have := l1.size; simp only [World.size_alloc] at this; omega
  clear l1 B0 Z0 L0
  go_wp2_with fail
  refine (carried_any (carW l) w1 hl1).mono ?_
  rintro e w2 ⟨rfl, l2⟩
  rw [E1.out]
  have L2 := Aside0.mk (below_then L1.out L1.out.size l2)
  have B2 := Aside0.mk (B1.out.below l2)
  have Z2 := Aside0.mk (Z1.out.below l2)
  have s2 : w.heap.size + 2 ≤ w2.heap.size := by have := l2.size; omega
  clear l2 B1 Z1 L1 s1 E1
  go_wp2_with (first | (refine store_blk rfl _ _ _ rfl rfl m rfl B2.out 5 (by kernel_rfl) hl hl2 ?_; intro w3 B3 g3 z3; have L3 := Aside0.mk (L2.out.grown g3 (by omega) (by simp)); have Z3 := Aside0.mk (Z2.out.grown g3 (by simp)); have s3 : w.heap.size + 2 ≤ w3.heap.size := (by have := g3.size; omega); replace B3 := Aside0.mk B3; clear g3 z3) | (refine load_blk rfl _ _ rfl rfl B3.out 5 56 (by kernel_rfl) (by kernel_rfl) hl2 ?_) | (refine store_blk rfl _ _ _ rfl rfl m rfl (Blk.at0 w3 58 .u64 (List.replicate 5 0) _ rfl) 5 (by kernel_rfl) rfl hl2 ?_; intro w4 C4 g4 z4; have L4 := Aside0.mk ((L3.out.alloc (by omega) (.cells (nums .u64 (List.replicate 5 0)).toArray 58)).grown g4 (by simp; omega) (by simp; omega)); have Z4 := Aside0.mk ((Z3.out.alloc (.cells (nums .u64 (List.replicate 5 0)).toArray 58)).grown g4 (by simp; omega)); have B4 := Aside0.mk ((B3.out.alloc (.cells (nums .u64 (List.replicate 5 0)).toArray 58)).grown g4 (by simp; omega)); have hcell : w4.cell? ⟨w3.heap.size, 0, none⟩ = some (.int .u64 (rd m 0)) := C4.cell 0 (by omega) (by omega); have hfz := C4.frozen 0; have s4 : w3.heap.size < w4.heap.size := C4.lt; replace C4 := Aside0.mk C4; clear g4 z4) | (refine load_blk rfl _ _ rfl rfl (C4.out.set 0 (IntKind.u64.wrap (rd m 0 + 5))) 5 56 (by kernel_rfl) (by kernel_rfl) hl3 ?_; clear hcell hfz))
  have L5 := Aside0.mk (L4.out.setCell (p := ⟨w3.heap.size, 0, none⟩) (by simp; omega) (.int .u64 (IntKind.u64.wrap (rd m 0 + 5))))
  have B5 := Aside0.mk (B4.out.far (a := ⟨w3.heap.size, 0, none⟩) (by simp; omega) (.int .u64 (IntKind.u64.wrap (rd m 0 + 5))))
  have Z5 := Aside0.mk (Z4.out.far (a := ⟨w3.heap.size, 0, none⟩) (by simp; omega) (.int .u64 (IntKind.u64.wrap (rd m 0 + 5))))
  have C5 := Aside0.mk (C4.out.set 0 (IntKind.u64.wrap (rd m 0 + 5)))
  clear C4 B4 Z4 L4
  refine (up_any _ _ hl3).mono ?_
  rintro e w5 ⟨rfl, l5⟩
  rw [E2.out]
  have L6 := Aside0.mk (below_then L5.out L5.out.size l5)
  have B6 := Aside0.mk (B5.out.below l5)
  have Z6 := Aside0.mk (Z5.out.below l5)
  have C6 := Aside0.mk (C5.out.below l5)
  have s6 : w4.heap.size ≤ w5.heap.size := by have := l5.size; simpa using this
  clear L5 B5 Z5 C5 l5
  by_cases hq : rd q 4 / 67108864 = 0
  · have qq : (rd q 4 / 67108864 = 0) = True := eq_true hq
    go_wp2_with (first | (refine store_blk rfl _ _ _ rfl rfl q rfl C6.out 5 (by kernel_rfl) hl3 hl4 ?_; intro w7 C7 g7 z7; have L7 := Aside0.mk (L6.out.grown g7 (by omega) (by simp; omega)); have Z7 := Aside0.mk (Z6.out.grown g7 (by simp; omega)); have B7 := Aside0.mk (B6.out.grown g7 (by simp; omega)); have hcell4 : w7.cell? ⟨w3.heap.size, 4, none⟩ = some (.int .u64 (rd q 4)) := C7.cell 4 (by omega) (by omega); clear g7 z7 C7) | (refine load_blk rfl _ _ rfl rfl B7.out 5 56 (by kernel_rfl) (by kernel_rfl) hl2 ?_) | (refine store_blk rfl _ _ _ rfl rfl m rfl Z7.out 5 (by kernel_rfl) rfl hl2 ?_; intro w8 Z8 g8 z8; have L8 := Aside0.mk (L7.out.grown g8 (by have := L7.out.size; omega) (by simp)); replace Z8 := Aside0.mk Z8; clear g8 z8))
    exact bodyPost_ret (results_blk rfl _ rfl Z8.out 5 56 (by kernel_rfl) (by kernel_rfl) hl2) rfl ⟨rfl, L8.out⟩
  · have qq : (rd q 4 / 67108864 = 0) = False := eq_false hq
    have hl5 : (q.set 4 (Go.bits .and .u64 (rd q 4) 67108863)).length = 5 := by rw [List.length_set, hl4]
    go_wp2_with (first | (refine store_blk rfl _ _ _ rfl rfl q rfl C6.out 5 (by kernel_rfl) hl3 hl4 ?_; intro w7 C7 g7 z7; have L7 := Aside0.mk (L6.out.grown g7 (by omega) (by simp; omega)); have Z7 := Aside0.mk (Z6.out.grown g7 (by simp; omega)); have hcell4 : w7.cell? ⟨w3.heap.size, 4, none⟩ = some (.int .u64 (rd q 4)) := C7.cell 4 (by omega) (by omega); have hfz4 := C7.frozen 4; replace C7 := Aside0.mk C7; clear g7 z7) | (refine load_blk rfl _ _ rfl rfl (C7.out.set 4 (Go.bits .and .u64 (rd q 4) 67108863)) 5 56 (by kernel_rfl) (by kernel_rfl) hl5 ?_; have L7b := Aside0.mk (L7.out.setCell (p := ⟨w3.heap.size, 4, none⟩) (by simp; omega) (.int .u64 (Go.bits .and .u64 (rd q 4) 67108863))); have Z7b := Aside0.mk (Z7.out.far (a := ⟨w3.heap.size, 4, none⟩) (by simp; omega) (.int .u64 (Go.bits .and .u64 (rd q 4) 67108863)))) | (refine store_blk rfl _ _ _ rfl rfl (q.set 4 (Go.bits .and .u64 (rd q 4) 67108863)) rfl Z7b.out 5 (by kernel_rfl) rfl hl5 ?_; intro w8 Z8 g8 z8; have L8 := Aside0.mk (L7b.out.grown g8 (by have := L7b.out.size; omega) (by simp)); replace Z8 := Aside0.mk Z8; clear g8 z8))
    exact bodyPost_ret (results_blk rfl _ rfl Z8.out 5 56 (by kernel_rfl) (by kernel_rfl) hl5) rfl ⟨rfl, L8.out⟩
theorem whole_any (l : List Int) (w : World) (hl : l.length = 5) :
    Calls Try.prog 51 #[.agg (nums .u64 l).toArray] w fun e w' => e = .returned (.agg (nums .u64 (wholeW l)).toArray) ∧ Below w.heap.size w w' := whole_core l (carW (carW l)) (lessW (carW (carW l))) w hl rfl rfl
end Go.Proofs.Ytllaobhheokafaa.Q
