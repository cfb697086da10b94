import Derived.Test.YtllaobhheokafaaPpoly
import Derived.Test.YtllaobhheokafaaC0
import Derived.Test.YtllaobhheokafaaHmem
namespace Go.Proofs.Ytllaobhheokafaa.Q
open Go.RowKit Go.Proofs.YtllaobhheokafaaW.PrintWords Go.Proofs.YtllaobhheokafaaW.PrintLast Go.Proofs.YtllaobhheokafaaW.PrintMore Go.Proofs.Ytllaobhheokafaa.H
set_option linter.unusedVariables false
set_option linter.unusedSimpArgs false
set_option maxHeartbeats 2000000 in
theorem of_any (A : Option Addr) (c : Nat) (b : List Int) (w : World) (hr : Kd.C (Kd.int .u8) w A b.length b) (hc : b.length ≤ c) (hb : b.length ≤ 17) (ho : ∀ k : Nat, k < b.length → 0 < ofV b k / 67108864 → 8 * k / 26 + 1 < 5) :
    Calls Try.prog 48 #[.slice A b.length c] w fun e w' => e = .returned (.agg (nums .u64 (ofW b)).toArray) ∧ Below w.heap.size w w' := by
  have HR := Aside0.mk hr
  clear hr
  have HB := Aside0.mk hb
  clear hb
  have Z0 := Aside0.mk ((Blk.at0 w 58 .u64 (List.replicate 5 0) _ rfl).alloc (.cells (nums .u64 (List.replicate 5 0)).toArray 58))
  have N0 := Aside0.mk (Blk.at1 w (.cells (nums .u64 (List.replicate 5 0)).toArray 58) 58 .u64 (List.replicate 5 0) _ rfl)
  have L0 := Aside0.mk (((Below.refl w.heap.size w).alloc (Nat.le_refl _) (.cells (nums .u64 (List.replicate 5 0)).toArray 58)).alloc (by simp) (.cells (nums .u64 (List.replicate 5 0)).toArray 58))
  go_enter Try.func48, Try.ntmps48
  go_wp2
  go_loopw [11] (fun i wr => ∃ k : Nat, k ≤ b.length ∧ i = .int .i64 k ∧ Aside0 (Blk wr (w.heap.size + 1) 58 .u64 (ofN b k)) ∧ Aside0 (Blk wr w.heap.size 58 .u64 (List.replicate 5 0)) ∧ Aside0 (Below w.heap.size w wr)) (fun i _ => b.length - (intOf i).toNat)
  case atStart => exact ⟨0, Nat.zero_le _, rfl, N0, Z0, L0⟩
  case round =>
    obtain ⟨k, hk, rfl, H1, H2, H3⟩ := hrel
    by_cases hlt : k < b.length
    · obtain ⟨ad, eA, hx⟩ := Kd.at_int HR.out (k : Int) (by omega) (by omega)
      cases eA
      have hx' : wr.cell? (ad.add k) = some (.int .u8 (rd b k)) := (H3.out.cell (World.block_lt_of_cell? w _ hx)).trans hx
      clear hx
      have hk17 : k < 17 := by have := HB.out; omega
      have p0 : (0 ≤ (k : Int)) = True := eq_true (by omega)
      have q0 : ((k : Int) < (b.length : Int)) = True := eq_true (by omega)
      have hcell : wr.cell? ⟨w.heap.size + 1, 8 * k / 26, none⟩ = some (.int .u64 (rd (ofN b k) (8 * k / 26 : Nat))) := by
        have h := H1.out.cell ((8 * k / 26 : Nat) : Int) (by omega) (by rw [ofN_length]; omega)
        rwa [Int.toNat_natCast] at h
      have hfz := H1.out.frozen (8 * k / 26)
      by_cases hov : 0 < ofV b k / 67108864
      · have h5 := ho k hlt hov
        have qv : (0 < IntKind.u64.wrap (IntKind.u64.wrap (rd b k) * 2 ^ (8 * k % 26)) / 67108864) = True := eq_true hov
        have q1 : (8 * (k : Int) / 26 + 1 < 5) = True := eq_true (by omega)
        have p1 : (0 ≤ 8 * (k : Int) / 26 + 1) = True := eq_true (by omega)
        have hcell2 : wr.cell? ⟨w.heap.size + 1, 8 * k / 26 + 1, none⟩ = some (.int .u64 (rd (ofN b k) (8 * k / 26 + 1 : Nat))) := by
          have h := H1.out.cell ((8 * k / 26 + 1 : Nat) : Int) (by omega) (by rw [ofN_length]; omega)
          rwa [Int.toNat_natCast] at h
        have hfz2 := H1.out.frozen (8 * k / 26 + 1)
        go_wp2
        go_roundw
        case rel =>
          refine ⟨k + 1, by omega, by go_num, ?_, ?_, ?_⟩
          · rw [ofN, if_pos hov]
            exact ⟨(H1.out.set _ _).set _ _⟩
          · exact ⟨(H2.out.far (by simp) _).far (by simp) _⟩
          · exact ⟨(H3.out.setCell (by simp) _).setCell (by simp) _⟩
        case measure => simp [intOf]; omega
      · have qv : (0 < IntKind.u64.wrap (IntKind.u64.wrap (rd b k) * 2 ^ (8 * k % 26)) / 67108864) = False := eq_false hov
        go_wp2
        go_roundw
        case rel =>
          refine ⟨k + 1, by omega, by go_num, ?_, ?_, ?_⟩
          · rw [ofN, if_neg hov]
            exact ⟨H1.out.set _ _⟩
          · exact ⟨H2.out.far (by simp) _⟩
          · exact ⟨H3.out.setCell (by simp) _⟩
        case measure => simp [intOf]; omega
    · obtain rfl : k = b.length := by omega
      have q0 : ((b.length : Int) < (b.length : Int)) = False := eq_false (by omega)
      have hln := ofW_length b
      have H1' : Aside0 (Blk wr (w.heap.size + 1) 58 .u64 (ofW b)) := H1
      go_wp2_with (first | (refine load_blk rfl _ _ rfl rfl H1'.out 5 56 (by kernel_rfl) (by kernel_rfl) hln ?_) | (refine store_blk rfl _ _ _ rfl rfl (ofW b) rfl H2.out 5 (by kernel_rfl) rfl hln ?_; intro w3 B3 g3 z3; replace B3 := Aside0.mk B3; replace g3 := Aside0.mk g3; clear z3))
      have L3 := H3.out.grown g3.out (by have := H3.out.size; omega) (by simp)
      exact bodyPost_ret (results_blk rfl _ rfl B3.out 5 56 (by kernel_rfl) (by kernel_rfl) hln) rfl ⟨rfl, L3⟩
end Go.Proofs.Ytllaobhheokafaa.Q
