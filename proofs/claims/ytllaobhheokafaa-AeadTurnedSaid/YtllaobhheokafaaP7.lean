import Derived.Test.YtllaobhheokafaaPpoly
import Derived.Test.YtllaobhheokafaaC0
import Derived.Test.YtllaobhheokafaaHmem
import Derived.Test.YtllaobhheokafaaP3
namespace Go.Proofs.Ytllaobhheokafaa.Q
open Go.RowKit Go.Proofs.YtllaobhheokafaaW.PrintWords Go.Proofs.YtllaobhheokafaaW.PrintLast Go.Proofs.YtllaobhheokafaaW.PrintMore Go.Proofs.Ytllaobhheokafaa.H
set_option linter.unusedVariables false
set_option linter.unusedSimpArgs false
set_option maxHeartbeats 2000000 in
theorem bytes_any (l : List Int) (w : World) (hl : l.length = 5) :
    Calls Try.prog 52 #[.agg (nums .u64 l).toArray] w fun e w' => ∃ v, e = .returned v ∧ Own w' w.heap.size 5 .u8 v (bytesW l) ∧ Below w.heap.size w w' := by
  have B0 := Aside0.mk (Blk.at0 w 58 .u64 l _ rfl)
  have L0 := Aside0.mk ((Below.refl w.heap.size w).alloc (Nat.le_refl _) (.cells (nums .u64 l).toArray 58))
  have hmk : ∀ w : World, (Instr.makeSlice 28 (.int .i64 16) (.int .i64 16)).run Try.prog w = .ok (.slice (some ⟨w.heap.size, 0, none⟩) 16 16) (w.alloc (.cells (nums .u8 (List.replicate 16 0)).toArray 5)) := fun _ => by kernel_rfl
  go_enter Try.func52, Try.ntmps52
  go_wp2_with (refine load_blk rfl _ _ rfl rfl B0.out 5 56 (by kernel_rfl) (by kernel_rfl) hl ?_)
  refine (up_any l _ hl).mono ?_
  rintro e w1 ⟨rfl, l1⟩
  have L1 := Aside0.mk (below_then L0.out (by simp) l1)
  have B1 := Aside0.mk (B0.out.below l1)
  have s1 : w.heap.size + 1 ≤ w1.heap.size := by have := l1.size; simp only [World.size_alloc] at this; omega
  have hlu : (upN l 4).length = 5 := by rw [upN_length, hl]
  clear l1 B0 L0
  obtain ⟨m, hm⟩ : ∃ m, upN l 4 = m := ⟨_, rfl⟩
  rw [hm] at hlu ⊢
  replace hm := Aside0.mk hm
  go_wp2_with (refine store_blk rfl _ _ _ rfl rfl m rfl B1.out 5 (by kernel_rfl) hl hlu ?_; intro w2 B2 g2 z2; have L2 := Aside0.mk (L1.out.grown g2 (by omega) (by simp)); have s2 : w.heap.size + 1 ≤ w2.heap.size := (by have := g2.size; omega); replace B2 := Aside0.mk B2; clear g2 z2)
  have B3 := Aside0.mk (B2.out.alloc (.cells (nums .u8 (List.replicate 16 0)).toArray 5))
  have O3 := Aside0.mk (Blk.at0 w2 5 .u8 (List.replicate 16 0) _ rfl)
  have L3 := Aside0.mk (L2.out.alloc (by omega) (.cells (nums .u8 (List.replicate 16 0)).toArray 5))
  have HLU := Aside0.mk hlu
  clear hlu hl B2 L2 B1 L1
  go_loopw [12] (fun i wr => ∃ k : Nat, k ≤ 16 ∧ i = .int .i64 k ∧ Aside0 (Blk wr w.heap.size 58 .u64 m) ∧ Aside0 (Blk wr w2.heap.size 5 .u8 (bytN m k)) ∧ Aside0 (Below w.heap.size w wr)) (fun i _ => 16 - (intOf i).toNat)
  case atStart => exact ⟨0, Nat.zero_le _, rfl, B3, O3, L3⟩
  case round =>
    clear B3 O3 L3
    obtain ⟨k, hk, rfl, H1, H2, H3⟩ := hrel
    by_cases hlt : k < 16
    · have p0 : (0 ≤ (k : Int)) = True := eq_true (by omega)
      have q0 : ((k : Int) < 16) = True := eq_true (by omega)
      have hcell : wr.cell? ⟨w.heap.size, 8 * k / 26, none⟩ = some (.int .u64 (rd m (8 * k / 26 : Nat))) := by
        have h := H1.out.cell ((8 * k / 26 : Nat) : Int) (by omega) (by rw [HLU.out]; omega)
        rwa [Int.toNat_natCast] at h
      have hcellO : wr.cell? ⟨w2.heap.size, k, none⟩ = some (.int .u8 (rd (bytN m k) k)) := by
        have h := H2.out.cell (k : Int) (by omega) (by rw [bytN_length]; omega)
        rwa [Int.toNat_natCast] at h
      have hfz := H2.out.frozen k
      by_cases hc : 8 * k / 26 + 1 < 5
      · have q1 : (8 * (k : Int) / 26 + 1 < 5) = True := eq_true (by omega)
        have p1 : (0 ≤ 8 * (k : Int) / 26 + 1) = True := eq_true (by omega)
        have p2 : (0 ≤ 26 - 8 * (k : Int) % 26) = True := eq_true (by omega)
        have hcell2 : wr.cell? ⟨w.heap.size, 8 * k / 26 + 1, none⟩ = some (.int .u64 (rd m (8 * k / 26 + 1 : Nat))) := by
          have h := H1.out.cell ((8 * k / 26 + 1 : Nat) : Int) (by omega) (by rw [HLU.out]; omega)
          rwa [Int.toNat_natCast] at h
        go_wp2
        go_roundw
        case rel =>
          refine ⟨k + 1, by omega, by go_num, ?_, ?_, ?_⟩
          · exact ⟨H1.out.far (by simp; omega) _⟩
          · rw [bytN, bytV, if_pos hc]
            exact ⟨H2.out.set k _⟩
          · exact ⟨H3.out.setCell (by simp; omega) _⟩
        case measure => simp [intOf]; omega
      · have q1 : (8 * (k : Int) / 26 + 1 < 5) = False := eq_false (by omega)
        go_wp2
        go_roundw
        case rel =>
          refine ⟨k + 1, by omega, by go_num, ?_, ?_, ?_⟩
          · exact ⟨H1.out.far (by simp; omega) _⟩
          · rw [bytN, bytV, if_neg hc]
            exact ⟨H2.out.set k _⟩
          · exact ⟨H3.out.setCell (by simp; omega) _⟩
        case measure => simp [intOf]; omega
    · obtain rfl : k = 16 := by omega
      have q0 : ((16 : Int) < 16) = False := eq_false (by omega)
      go_wp2
      go_ret
      have e16 : bytN m 16 = bytesW l := by rw [bytesW, hm.out]
      have h := Own.of_blk (base := w.heap.size) H2.out (by omega) (by rw [bytN_length]; decide)
      rw [bytN_length, e16] at h
      exact ⟨_, rfl, h, H3.out⟩
end Go.Proofs.Ytllaobhheokafaa.Q
