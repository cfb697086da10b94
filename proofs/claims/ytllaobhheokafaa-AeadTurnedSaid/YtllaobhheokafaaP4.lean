import Derived.Test.YtllaobhheokafaaPpoly
import Derived.Test.YtllaobhheokafaaC0
import Derived.Test.YtllaobhheokafaaHmem
import Derived.Test.YtllaobhheokafaaP1
namespace Go.Proofs.Ytllaobhheokafaa.Q
open Go.RowKit Go.Proofs.YtllaobhheokafaaW.PrintWords Go.Proofs.YtllaobhheokafaaW.PrintLast Go.Proofs.YtllaobhheokafaaW.PrintMore Go.Proofs.Ytllaobhheokafaa.H
set_option linter.unusedVariables false
set_option linter.unusedSimpArgs false
set_option maxHeartbeats 2000000 in
theorem times_any (n r : List Int) (w : World) (hn : n.length = 5) (hr : r.length = 5) :
    Calls Try.prog 50 #[.agg (nums .u64 n).toArray, .agg (nums .u64 r).toArray] w fun e w' => e = .returned (.agg (nums .u64 (timesW n r)).toArray) ∧ Below w.heap.size w w' := by
  have HN := Aside0.mk hn
  have HR := Aside0.mk hr
  clear hn hr
  have b0 := (((Blk.at0 w 58 .u64 n _ rfl).alloc (.cells (nums .u64 r).toArray 58)).alloc (.cells (nums .u64 (List.replicate 5 0)).toArray 58)).alloc (.cells (nums .u64 (List.replicate 5 0)).toArray 58)
  have r0 := ((Blk.at1 w (.cells (nums .u64 n).toArray 58) 58 .u64 r _ rfl).alloc (.cells (nums .u64 (List.replicate 5 0)).toArray 58)).alloc (.cells (nums .u64 (List.replicate 5 0)).toArray 58)
  have z0 := (Blk.at1 (w.alloc (.cells (nums .u64 n).toArray 58)) (.cells (nums .u64 r).toArray 58) 58 .u64 (List.replicate 5 0) _ rfl).alloc (.cells (nums .u64 (List.replicate 5 0)).toArray 58)
  have o0 := Blk.at1 ((w.alloc (.cells (nums .u64 n).toArray 58)).alloc (.cells (nums .u64 r).toArray 58)) (.cells (nums .u64 (List.replicate 5 0)).toArray 58) 58 .u64 (List.replicate 5 0) _ rfl
  simp only [World.size_alloc] at z0 o0
  have B0 := Aside0.mk b0
  have R0 := Aside0.mk r0
  have Z0 := Aside0.mk z0
  have O0 := Aside0.mk o0
  clear b0 r0 z0 o0
  have L0 := Aside0.mk (((((Below.refl w.heap.size w).alloc (Nat.le_refl _) (.cells (nums .u64 n).toArray 58)).alloc (by simp) (.cells (nums .u64 r).toArray 58)).alloc (by simp; omega) (.cells (nums .u64 (List.replicate 5 0)).toArray 58)).alloc (by simp; omega) (.cells (nums .u64 (List.replicate 5 0)).toArray 58))
  go_enter Try.func50, Try.ntmps50
  go_wp2
  go_loopw [9] (fun i wr => ∃ k : Nat, k ≤ 5 ∧ i = .int .i64 k ∧ Aside0 (Blk wr w.heap.size 58 .u64 n) ∧ Aside0 (Blk wr (w.heap.size + 1) 58 .u64 r) ∧ Aside0 (Blk wr (w.heap.size + 1 + 1) 58 .u64 (List.replicate 5 0)) ∧ Aside0 (Blk wr (w.heap.size + 1 + 1 + 1) 58 .u64 (timI n r k)) ∧ Aside0 (Below w.heap.size w wr)) (fun i _ => 5 - (intOf i).toNat)
  case atStart => exact ⟨0, Nat.zero_le _, rfl, B0, R0, Z0, O0, L0⟩
  case round =>
    obtain ⟨i, hi, rfl, H1, H2, HZ, HO, H3⟩ := hrel
    by_cases hlt : i < 5
    · have p0 : (0 ≤ (i : Int)) = True := eq_true (by omega)
      have q0 : ((i : Int) < 5) = True := eq_true (by omega)
      go_wp2
      go_loopw [12] (fun jv ws => ∃ j : Nat, j ≤ 5 ∧ jv = .int .i64 j ∧ Aside0 (Blk ws w.heap.size 58 .u64 n) ∧ Aside0 (Blk ws (w.heap.size + 1) 58 .u64 r) ∧ Aside0 (Blk ws (w.heap.size + 1 + 1) 58 .u64 (List.replicate 5 0)) ∧ Aside0 (Blk ws (w.heap.size + 1 + 1 + 1) 58 .u64 (timJ n r (timI n r i) i j)) ∧ Aside0 (Below w.heap.size w ws)) (fun jv _ => 5 - (intOf jv).toNat)
      case atStart => exact ⟨0, Nat.zero_le _, rfl, H1, H2, HZ, HO, H3⟩
      case round =>
        clear H1 H2 HZ HO H3
        obtain ⟨j, hj, rfl, H1, H2, HZ, HO, H3⟩ := hrel
        by_cases hjt : j < 5
        · have p1 : (0 ≤ (j : Int)) = True := eq_true (by omega)
          have q1 : ((j : Int) < 5) = True := eq_true (by omega)
          have hcell : wr.cell? ⟨w.heap.size, i, none⟩ = some (.int .u64 (rd n i)) := H1.out.cell (i : Int) (by omega) (by rw [HN.out]; omega)
          have hcell2 : wr.cell? ⟨w.heap.size + 1, j, none⟩ = some (.int .u64 (rd r j)) := H2.out.cell (j : Int) (by omega) (by rw [HR.out]; omega)
          have hix : (i + j) % 5 < (timJ n r (timI n r i) i j).length := by rw [timJ_length, timI_length]; omega
          have hcell3 : wr.cell? ⟨w.heap.size + 1 + 1 + 1, (i + j) % 5, none⟩ = some (.int .u64 (rd (timJ n r (timI n r i) i j) ((i + j) % 5 : Nat))) := by
            have h := HO.out.cell (((i + j) % 5 : Nat) : Int) (by omega) (by exact_mod_cast hix)
            rwa [Int.toNat_natCast] at h
          have hfz := HO.out.frozen ((i + j) % 5)
          have e1 := HO.out.set ((i + j) % 5) (IntKind.u64.wrap (rd (timJ n r (timI n r i) i j) ((i + j) % 5 : Nat) + mulV n r i j))
          by_cases hc : 5 ≤ i + j
          · have q2 : (5 ≤ (i : Int) + (j : Int)) = True := eq_true (by omega)
            have ev : mulV n r i j = IntKind.u64.wrap (IntKind.u64.wrap (rd n i * rd r j) * 5) := if_pos hc
            rw [ev] at e1
            go_wp2
            go_quiet (fail)
            go_wp2
            go_roundw
            case rel =>
              refine ⟨j + 1, by omega, by go_num, ?_, ?_, ?_, ?_, ?_⟩
              · exact ⟨(H1.out.drewN nq).far (by simp; omega) _⟩
              · exact ⟨(H2.out.drewN nq).far (by simp) _⟩
              · exact ⟨(HZ.out.drewN nq).far (by simp) _⟩
              · rw [timJ, ev]; exact ⟨(HO.out.drewN nq).set _ _⟩
              · exact ⟨(pw_below_drewN H3.out nq).setCell (by simp; omega) _⟩
            case measure => simp [intOf]; omega
          · have q2 : (5 ≤ (i : Int) + (j : Int)) = False := eq_false (by omega)
            have ev : mulV n r i j = IntKind.u64.wrap (rd n i * rd r j) := if_neg hc
            rw [ev] at e1
            go_wp2
            go_quiet (fail)
            go_wp2
            go_roundw
            case rel =>
              refine ⟨j + 1, by omega, by go_num, ?_, ?_, ?_, ?_, ?_⟩
              · exact ⟨(H1.out.drewN nq).far (by simp; omega) _⟩
              · exact ⟨(H2.out.drewN nq).far (by simp) _⟩
              · exact ⟨(HZ.out.drewN nq).far (by simp) _⟩
              · rw [timJ, ev]; exact ⟨(HO.out.drewN nq).set _ _⟩
              · exact ⟨(pw_below_drewN H3.out nq).setCell (by simp; omega) _⟩
            case measure => simp [intOf]; omega
        · obtain rfl : j = 5 := by omega
          have q1 : ((5 : Int) < 5) = False := eq_false (by omega)
          go_wp2
          go_roundw
          case rel => exact ⟨i + 1, by omega, by go_num, H1, H2, HZ, HO, H3⟩
          case measure => simp [intOf]; omega
    · obtain rfl : i = 5 := by omega
      have q0 : ((5 : Int) < 5) = False := eq_false (by omega)
      have hlo := timI_length n r 5
      have hl1 : (carW (timI n r 5)).length = 5 := by rw [carW_length, hlo]
      have hl2 := timesW_length n r
      go_wp2_with (refine load_blk rfl _ _ rfl rfl HO.out 5 56 (by kernel_rfl) (by kernel_rfl) hlo ?_)
      refine (carried_any (timI n r 5) wr hlo).mono ?_
      rintro e w2 ⟨rfl, l2⟩
      have L2 := Aside0.mk (below_then H3.out H3.out.size l2)
      have Z2 := Aside0.mk (HZ.out.below l2)
      clear l2
      go_wp2_with fail
      refine (carried_any (carW (timI n r 5)) w2 hl1).mono ?_
      rintro e w3 ⟨rfl, l3⟩
      have L3 := Aside0.mk (below_then L2.out L2.out.size l3)
      have Z3 := Aside0.mk (Z2.out.below l3)
      clear l3
      go_wp2_with (refine store_blk rfl _ _ _ rfl rfl (timesW n r) rfl Z3.out 5 (by kernel_rfl) rfl hl2 ?_; intro w4 B4 g4 z4; replace B4 := Aside0.mk B4; replace g4 := Aside0.mk g4; clear z4)
      have L4 := L3.out.grown g4.out (by have := L3.out.size; omega) (by simp; omega)
      exact bodyPost_ret (results_blk rfl _ rfl B4.out 5 56 (by kernel_rfl) (by kernel_rfl) hl2) rfl ⟨rfl, L4⟩
end Go.Proofs.Ytllaobhheokafaa.Q
