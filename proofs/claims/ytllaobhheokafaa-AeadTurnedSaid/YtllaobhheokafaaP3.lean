import Derived.Test.YtllaobhheokafaaPpoly
import Derived.Test.YtllaobhheokafaaC0
import Derived.Test.YtllaobhheokafaaHmem
import Derived.Test.YtllaobhheokafaaP1
namespace Go.Proofs.Ytllaobhheokafaa.Q
open Go.RowKit Go.Proofs.YtllaobhheokafaaW.PrintWords Go.Proofs.YtllaobhheokafaaW.PrintLast Go.Proofs.YtllaobhheokafaaW.PrintMore Go.Proofs.Ytllaobhheokafaa.H
set_option linter.unusedVariables false
set_option linter.unusedSimpArgs false
set_option maxHeartbeats 1000000 in
theorem up_any (l : List Int) (w : World) (hl : l.length = 5) :
    Calls Try.prog 65 #[.agg (nums .u64 l).toArray] w fun e w' => e = .returned (.agg (nums .u64 (upN l 4)).toArray) ∧ Below w.heap.size w w' := by
  have HL := Aside0.mk hl
  clear hl
  have B0 := Aside0.mk ((Blk.at0 w 58 .u64 l _ rfl).alloc (.cells (nums .u64 (List.replicate 5 0)).toArray 58))
  have Z0 := Aside0.mk (Blk.at1 w (.cells (nums .u64 l).toArray 58) 58 .u64 (List.replicate 5 0) _ rfl)
  have L0 := Aside0.mk (((Below.refl w.heap.size w).alloc (Nat.le_refl _) (.cells (nums .u64 l).toArray 58)).alloc (by simp) (.cells (nums .u64 (List.replicate 5 0)).toArray 58))
  go_enter Try.func65, Try.ntmps65
  go_wp2
  go_loopw [4] (fun i wr => ∃ k : Nat, k ≤ 4 ∧ i = .int .i64 k ∧ Aside0 (Blk wr w.heap.size 58 .u64 (upN l k)) ∧ Aside0 (Blk wr (w.heap.size + 1) 58 .u64 (List.replicate 5 0)) ∧ Aside0 (Below w.heap.size w wr)) (fun i _ => 4 - (intOf i).toNat)
  case atStart => exact ⟨0, Nat.zero_le _, rfl, B0, Z0, L0⟩
  case round =>
    obtain ⟨k, hk, rfl, H1, H2, H3⟩ := hrel
    by_cases hlt : k < 4
    · have p0 : (0 ≤ (k : Int)) = True := eq_true (by omega)
      have q0 : ((k : Int) < 4) = True := eq_true (by omega)
      have q1 : ((k : Int) < 5) = True := eq_true (by omega)
      have p1 : (0 ≤ (k : Int) + 1) = True := eq_true (by omega)
      have q2 : ((k : Int) + 1 < 5) = True := eq_true (by omega)
      have hcell : wr.cell? ⟨w.heap.size, k, none⟩ = some (.int .u64 (rd (upN l k) k)) := H1.out.cell (k : Int) (by omega) (by rw [upN_length, HL.out]; omega)
      have hcell2 : wr.cell? ⟨w.heap.size, k + 1, none⟩ = some (.int .u64 (rd (upN l k) ((k : Int) + 1))) := by
        have h := H1.out.cell ((k : Int) + 1) (by omega) (by rw [upN_length, HL.out]; omega)
        rwa [show ((k : Int) + 1).toNat = k + 1 by omega] at h
      have hfz := H1.out.frozen k
      have hfz2 := H1.out.frozen (k + 1)
      go_wp2
      go_region
      have e1 := (H1.out.set (k + 1) (IntKind.u64.wrap (rd (upN l k) ((k : Int) + 1) + rd (upN l k) k / 67108864))).drew
      have c1 := e1.cellN k (by rw [List.length_set, upN_length, HL.out]; omega)
      have e2 : ((upN l k).set (k + 1) (IntKind.u64.wrap (rd (upN l k) ((k : Int) + 1) + rd (upN l k) k / 67108864))).getD k 0 = rd (upN l k) k := by
        simp [rd, List.getD_eq_getElem?_getD]
      rw [e2] at c1
      have f1 := e1.frozen k
      go_wp2
      go_roundw
      case rel =>
        refine ⟨k + 1, by omega, by go_num, ?_, ?_, ?_⟩
        · exact ⟨e1.set k _⟩
        · exact ⟨((H2.out.far (by simp) _).drew).far (by simp) _⟩
        · exact ⟨((H3.out.setCell (by simp) _).drew).setCell (by simp) _⟩
      case measure => simp [intOf]; omega
    · obtain rfl : k = 4 := by omega
      have q0 : ((4 : Int) < 4) = False := eq_false (by omega)
      have hln : (upN l 4).length = 5 := by rw [upN_length, HL.out]
      go_wp2_with (first | (refine load_blk rfl _ _ rfl rfl H1.out 5 56 (by kernel_rfl) (by kernel_rfl) hln ?_) | (refine store_blk rfl _ _ _ rfl rfl (upN l 4) rfl H2.out 5 (by kernel_rfl) rfl hln ?_; intro w3 B3 g3 z3; replace B3 := Aside0.mk B3; replace g3 := Aside0.mk g3; clear z3))
      have L3 := H3.out.grown g3.out (by have := H3.out.size; omega) (by simp)
      exact bodyPost_ret (results_blk rfl _ rfl B3.out 5 56 (by kernel_rfl) (by kernel_rfl) hln) rfl ⟨rfl, L3⟩
end Go.Proofs.Ytllaobhheokafaa.Q
