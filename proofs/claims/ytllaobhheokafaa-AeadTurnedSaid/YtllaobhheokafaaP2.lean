import Derived.Test.YtllaobhheokafaaPpoly
import Derived.Test.YtllaobhheokafaaC0
import Derived.Test.YtllaobhheokafaaHmem
import Derived.Test.YtllaobhheokafaaP1
namespace Go.Proofs.Ytllaobhheokafaa.Q
open Go.RowKit Go.Proofs.YtllaobhheokafaaW.PrintWords Go.Proofs.YtllaobhheokafaaW.PrintLast Go.Proofs.YtllaobhheokafaaW.PrintMore Go.Proofs.Ytllaobhheokafaa.H
set_option linter.unusedVariables false
set_option linter.unusedSimpArgs false
set_option maxHeartbeats 1000000 in
theorem plus_any (l m : List Int) (w : World) (hl : l.length = 5) (hm : m.length = 5) :
    Calls Try.prog 49 #[.agg (nums .u64 l).toArray, .agg (nums .u64 m).toArray] w fun e w' => e = .returned (.agg (nums .u64 (plusW l m)).toArray) ∧ Below w.heap.size w w' := by
  have HL := Aside0.mk hl
  have HM := Aside0.mk hm
  clear hl hm
  have B0 := Aside0.mk (((Blk.at0 w 58 .u64 l _ rfl).alloc (.cells (nums .u64 m).toArray 58)).alloc (.cells (nums .u64 (List.replicate 5 0)).toArray 58))
  have M0 := Aside0.mk ((Blk.at1 w (.cells (nums .u64 l).toArray 58) 58 .u64 m _ rfl).alloc (.cells (nums .u64 (List.replicate 5 0)).toArray 58))
  have z0 := Blk.at1 (w.alloc (.cells (nums .u64 l).toArray 58)) (.cells (nums .u64 m).toArray 58) 58 .u64 (List.replicate 5 0) _ rfl
  rw [World.size_alloc] at z0
  have Z0 := Aside0.mk z0
  clear z0
  have L0 := Aside0.mk ((((Below.refl w.heap.size w).alloc (Nat.le_refl _) (.cells (nums .u64 l).toArray 58)).alloc (by simp) (.cells (nums .u64 m).toArray 58)).alloc (by simp; omega) (.cells (nums .u64 (List.replicate 5 0)).toArray 58))
  go_enter Try.func49, Try.ntmps49
  go_wp2
  go_loopw [6] (fun i wr => ∃ k : Nat, k ≤ 5 ∧ i = .int .i64 k ∧ Aside0 (Blk wr w.heap.size 58 .u64 (addN l m k)) ∧ Aside0 (Blk wr (w.heap.size + 1) 58 .u64 m) ∧ Aside0 (Blk wr (w.heap.size + 1 + 1) 58 .u64 (List.replicate 5 0)) ∧ Aside0 (Below w.heap.size w wr)) (fun i _ => 5 - (intOf i).toNat)
  case atStart => exact ⟨0, Nat.zero_le _, rfl, B0, M0, Z0, L0⟩
  case round =>
    obtain ⟨k, hk, rfl, H1, HM1, H2, H3⟩ := hrel
    by_cases hlt : k < 5
    · have p0 : (0 ≤ (k : Int)) = True := eq_true (by omega)
      have q0 : ((k : Int) < 5) = True := eq_true (by omega)
      have hcell : wr.cell? ⟨w.heap.size, k, none⟩ = some (.int .u64 (rd (addN l m k) k)) := H1.out.cell (k : Int) (by omega) (by rw [addN_length, HL.out]; omega)
      have hcell2 : wr.cell? ⟨w.heap.size + 1, k, none⟩ = some (.int .u64 (rd m k)) := HM1.out.cell (k : Int) (by omega) (by rw [HM.out]; omega)
      have hfz := H1.out.frozen k
      go_wp2
      go_region
      go_wp2
      go_roundw
      case rel =>
        refine ⟨k + 1, by omega, by go_num, ?_, ?_, ?_, ?_⟩
        · exact ⟨(H1.out.set k (IntKind.u64.wrap (rd (addN l m k) k + rd m k))).drew⟩
        · exact ⟨(HM1.out.far (by simp) _).drew⟩
        · exact ⟨(H2.out.far (by simp; omega) _).drew⟩
        · exact ⟨(H3.out.setCell (by simp) _).drew⟩
      case measure => simp [intOf]; omega
    · obtain rfl : k = 5 := by omega
      have q0 : ((5 : Int) < 5) = False := eq_false (by omega)
      have hln : (addN l m 5).length = 5 := by rw [addN_length, HL.out]
      have hlp : (plusW l m).length = 5 := by rw [plusW_length, HL.out]
      go_wp2_with (refine load_blk rfl _ _ rfl rfl H1.out 5 56 (by kernel_rfl) (by kernel_rfl) hln ?_)
      refine (carried_any (addN l m 5) wr hln).mono ?_
      rintro e w2 ⟨rfl, l2⟩
      have L3 := Aside0.mk (below_then H3.out H3.out.size l2)
      have Z3 := Aside0.mk (H2.out.below l2)
      clear l2
      go_wp2_with (refine store_blk rfl _ _ _ rfl rfl (carW (addN l m 5)) rfl Z3.out 5 (by kernel_rfl) rfl hlp ?_; intro w3 B3 g3 z3; replace B3 := Aside0.mk B3; replace g3 := Aside0.mk g3; clear z3)
      have L4 := L3.out.grown g3.out (by have := L3.out.size; omega) (by simp; omega)
      exact bodyPost_ret (results_blk rfl _ rfl B3.out 5 56 (by kernel_rfl) (by kernel_rfl) hlp) rfl ⟨rfl, L4⟩
end Go.Proofs.Ytllaobhheokafaa.Q
