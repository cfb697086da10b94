import Derived.Test.YtllaobhheokafaaPpoly
import Derived.Test.YtllaobhheokafaaC0
import Derived.Test.YtllaobhheokafaaHmem
namespace Go.Proofs.Ytllaobhheokafaa.Q
open Go.RowKit Go.Proofs.YtllaobhheokafaaW.PrintWords Go.Proofs.YtllaobhheokafaaW.PrintLast Go.Proofs.YtllaobhheokafaaW.PrintMore Go.Proofs.Ytllaobhheokafaa.H
set_option linter.unusedVariables false
set_option linter.unusedSimpArgs false
set_option maxHeartbeats 1000000 in
theorem carried_any (l : List Int) (w : World) (hl : l.length = 5) :
    Calls Try.prog 64 #[.agg (nums .u64 l).toArray] w fun e w' => e = .returned (.agg (nums .u64 (carW l)).toArray) ∧ Below w.heap.size w w' := by
  have HL := Aside0.mk hl
  clear hl
  have B0 := Aside0.mk ((Blk.at0 w 58 .u64 l _ rfl).alloc (.cells (nums .u64 (List.replicate 5 0)).toArray 58))
  have Z0 := Aside0.mk (Blk.at1 w (.cells (nums .u64 l).toArray 58) 58 .u64 (List.replicate 5 0) _ rfl)
  have L0 := Aside0.mk (((Below.refl w.heap.size w).alloc (Nat.le_refl _) (.cells (nums .u64 l).toArray 58)).alloc (by simp) (.cells (nums .u64 (List.replicate 5 0)).toArray 58))
  go_enter Try.func64, Try.ntmps64
  go_wp2
  go_loopw [3, 5] (fun o i wr => ∃ k : Nat, k ≤ 5 ∧ i = .int .i64 k ∧ o = .int .u64 (carN l k).2 ∧ Aside0 (Blk wr w.heap.size 58 .u64 (carN l k).1) ∧ Aside0 (Blk wr (w.heap.size + 1) 58 .u64 (List.replicate 5 0)) ∧ Aside0 (Below w.heap.size w wr)) (fun _ i _ => 5 - (intOf i).toNat)
  case atStart => exact ⟨0, Nat.zero_le _, rfl, rfl, B0, Z0, L0⟩
  case round =>
    obtain ⟨k, hk, rfl, rfl, H1, H2, H3⟩ := hrel
    by_cases hlt : k < 5
    · have p0 : (0 ≤ (k : Int)) = True := eq_true (by omega)
      have q0 : ((k : Int) < 5) = True := eq_true (by omega)
      have hcell : wr.cell? ⟨w.heap.size, k, none⟩ = some (.int .u64 (rd (carN l k).1 k)) := H1.out.cell (k : Int) (by omega) (by rw [carN_length, HL.out]; omega)
      have hfz := H1.out.frozen k
      go_wp2
      go_roundw
      case rel =>
        refine ⟨k + 1, by omega, by go_num, rfl, ?_, ?_, ?_⟩
        · have h2 := (H1.out.set k (IntKind.u64.wrap (rd (carN l k).1 k + (carN l k).2))).set k (Go.bits .and .u64 (IntKind.u64.wrap (rd (carN l k).1 k + (carN l k).2)) 67108863)
          rw [List.set_set] at h2
          exact ⟨h2⟩
        · exact ⟨(H2.out.far (by simp) _).far (by simp) _⟩
        · exact ⟨(H3.out.setCell (by simp) _).setCell (by simp) _⟩
      case measure => simp [intOf]; omega
    · obtain rfl : k = 5 := by omega
      have q0 : ((5 : Int) < 5) = False := eq_false (by omega)
      have hcell : wr.cell? ⟨w.heap.size, 0, none⟩ = some (.int .u64 (rd (carN l 5).1 0)) := H1.out.cell 0 (by omega) (by rw [carN_length, HL.out]; omega)
      have hfz := H1.out.frozen 0
      have R1 := Aside0.mk (H1.out.set 0 (IntKind.u64.wrap (rd (carN l 5).1 0 + IntKind.u64.wrap (5 * (carN l 5).2))))
      have R2 := fun v => Aside0.mk (H2.out.far (a := ⟨w.heap.size, 0, none⟩) (by simp) v)
      have R3 := fun v => Aside0.mk (H3.out.setCell (p := ⟨w.heap.size, 0, none⟩) (by simp) v)
      have hln : (carW l).length = 5 := by rw [carW_length, HL.out]
      go_wp2_with (first | (refine load_blk rfl _ _ rfl rfl R1.out 5 56 (by kernel_rfl) (by kernel_rfl) hln ?_) | (refine store_blk rfl _ _ _ rfl rfl (carW l) rfl (R2 _).out 5 (by kernel_rfl) rfl hln ?_; intro w3 B3 g3 z3; replace B3 := Aside0.mk B3; replace g3 := Aside0.mk g3; clear z3))
      have L3 := (R3 _).out.grown g3.out (by have := (R3 (.int .u64 0)).out.size; simp at this ⊢; omega) (by simp)
      exact bodyPost_ret (results_blk rfl _ rfl B3.out 5 56 (by kernel_rfl) (by kernel_rfl) hln) rfl ⟨rfl, L3⟩
end Go.Proofs.Ytllaobhheokafaa.Q
