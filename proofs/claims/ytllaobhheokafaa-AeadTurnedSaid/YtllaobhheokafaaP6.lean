import Derived.Test.YtllaobhheokafaaPpoly
import Derived.Test.YtllaobhheokafaaC0
import Derived.Test.YtllaobhheokafaaHmem
import Derived.Test.YtllaobhheokafaaP5
namespace Go.Proofs.Ytllaobhheokafaa.Q
open Go.RowKit Go.Proofs.YtllaobhheokafaaW.PrintWords Go.Proofs.YtllaobhheokafaaW.PrintLast Go.Proofs.YtllaobhheokafaaW.PrintMore Go.Proofs.Ytllaobhheokafaa.H
set_option linter.unusedVariables false
set_option linter.unusedSimpArgs false
theorem nums_len (k : IntKind) (l : List Int) : (nums k l).length = l.length := by simp [nums]
theorem C_cells {k : IntKind} {A : Option Addr} {n : Nat} {l : List Int} {w : World} (h : Kd.C (Kd.int k) w A n l) (hp : 0 < l.length) : ∃ ad, A = some ad ∧ ∀ j v, (nums k l)[j]? = some v → w.cell? (ad.add j) = some v := by
  have hr := Kd.reads_of_C (enc := Value.int k) (d := (0 : Int)) (h1 := fun _ => rfl) h
  have hln : l.length = n := hr.1
  obtain ⟨ad, e, hc⟩ := hr.2.2 (by omega)
  refine ⟨ad, e, fun j v hv => ?_⟩
  have hj : j < l.length := by have := (List.getElem?_eq_some_iff.1 hv).1; rwa [nums_len] at this
  rw [hc j (by omega), ← hv, nums_getElem?]
  simp [List.getD_eq_getElem?_getD, hj]
theorem slice_all16 (w : World) (g : Nat) : (Instr.sliceAt 72 (.pointer (some ⟨g, 0, none⟩)) none none none).run Try.prog w = .ok (.slice (some ⟨g, 0, none⟩) 16 16) w := by
  have ha : Try.prog.underlying 72 = some (.array (Try.prog.arrayLen 72) (Try.prog.elem 72)) := by kernel_rfl
  have hl : Try.prog.arrayLen 72 = 16 := by kernel_rfl
  have hs : (sizeOf (Try.prog.elem 72)).run Try.prog w = .ok 1 w := by kernel_rfl
  rw [run_sliceAt_array_all w _ _ ha, hs, hl]
  simp [Result.andThen, slicedAt, Addr.add_mid]
theorem take_nums (k : IntKind) (l : List Int) (n j : Nat) (v : Value) (h : (nums k (l.take n))[j]? = some v) : (nums k l)[j]? = some v := by
  rw [nums_getElem?] at h ⊢
  rw [List.getElem?_take] at h
  split at h
  · exact h
  · simp at h
set_option maxHeartbeats 2000000 in
set_option maxRecDepth 100000 in
theorem clamped_any (A : Option Addr) (c : Nat) (key : List Int) (w : World) (hr : Kd.C (Kd.int .u8) w A key.length key) (hc : key.length ≤ c) (h32 : key.length = 32) (ho : ∀ k : Nat, k < (clampB key).length → 0 < ofV (clampB key) k / 67108864 → 8 * k / 26 + 1 < 5) :
    Calls Try.prog 47 #[.slice A key.length c] w fun e w' => e = .returned (.agg (nums .u64 (ofW (clampB key))).toArray) ∧ Below w.heap.size w w' := by
  have Z0 := Aside0.mk ((Blk.at0 w 58 .u64 (List.replicate 5 0) _ rfl).alloc (.cells #[.int .u8 0, .int .u8 0, .int .u8 0, .int .u8 0, .int .u8 0, .int .u8 0, .int .u8 0, .int .u8 0, .int .u8 0, .int .u8 0, .int .u8 0, .int .u8 0, .int .u8 0, .int .u8 0, .int .u8 0, .int .u8 0] 72))
  have K0 := Aside0.mk (show Bk ((w.alloc (.cells #[.int .u64 0, .int .u64 0, .int .u64 0, .int .u64 0, .int .u64 0] 58)).alloc (.cells #[.int .u8 0, .int .u8 0, .int .u8 0, .int .u8 0, .int .u8 0, .int .u8 0, .int .u8 0, .int .u8 0, .int .u8 0, .int .u8 0, .int .u8 0, .int .u8 0, .int .u8 0, .int .u8 0, .int .u8 0, .int .u8 0] 72)) (w.heap.size + 1) 72 (nums .u8 (List.replicate 16 0)) from ⟨heap_alloc2_new w _ _⟩)
  have L0 := Aside0.mk (((Below.refl w.heap.size w).alloc (Nat.le_refl _) (.cells #[.int .u64 0, .int .u64 0, .int .u64 0, .int .u64 0, .int .u64 0] 58)).alloc (by simp) (.cells #[.int .u8 0, .int .u8 0, .int .u8 0, .int .u8 0, .int .u8 0, .int .u8 0, .int .u8 0, .int .u8 0, .int .u8 0, .int .u8 0, .int .u8 0, .int .u8 0, .int .u8 0, .int .u8 0, .int .u8 0, .int .u8 0] 72))
  have CX := Aside0.mk (Kd.C_below hr L0.out)
  clear hr
  have hm := Aside0.mk (show Nat.min key.length 16 = 16 by rw [h32]; rfl)
  have ht16 := Aside0.mk (show (key.take 16).length = 16 by rw [List.length_take]; omega)
  have H32 := Aside0.mk h32
  clear h32
  have hall := slice_all16 ((w.alloc (.cells #[.int .u64 0, .int .u64 0, .int .u64 0, .int .u64 0, .int .u64 0] 58)).alloc (.cells #[.int .u8 0, .int .u8 0, .int .u8 0, .int .u8 0, .int .u8 0, .int .u8 0, .int .u8 0, .int .u8 0, .int .u8 0, .int .u8 0, .int .u8 0, .int .u8 0, .int .u8 0, .int .u8 0, .int .u8 0, .int .u8 0] 72)) (w.heap.size + 1)
  go_enter Try.func47, Try.ntmps47
  go_wp2_with ((refine wpList_copy_splice rfl _ _ 28 28 rfl 5 Try.underlying28 (by kernel_rfl) (some ⟨w.heap.size + 1, 0, none⟩) A 16 16 key.length c rfl rfl (w.heap.size + 1) 0 (nums .u8 (List.replicate 16 0)) 72 K0.out.out (nums .u8 (key.take 16)) (by rw [nums_len, ht16.out]; exact hm.out.symm) (fun hp => ⟨rfl, (C_cells CX.out (by have := H32.out; omega)).imp fun ad h => ⟨h.1, fun j v hv => h.2 j v (take_nums _ _ _ _ _ hv)⟩⟩) (by rw [nums_len, nums_len, List.length_replicate, ht16.out]; decide) oneCell_nums (w.heap.size + 1) _ (Below.refl _ _) (Nat.le_refl _) ?_; intro w2 B2 L2))
  have B3 := Aside0.mk (show Blk w2 (w.heap.size + 1) 72 .u8 (key.take 16) from ⟨by
    have e := splice_all (nums .u8 (List.replicate 16 0)) (nums .u8 (key.take 16)) (by rw [nums_len, nums_len, ht16.out, List.length_replicate])
    rw [← e]
    exact B2⟩)
  have Z2 := Aside0.mk (Z0.out.belowB (Nat.lt_succ_self _) L2)
  have L3 := Aside0.mk (L0.out.trans (L2.mono (by omega)))
  have s2 : w.heap.size + 1 < w2.heap.size := B3.out.lt
  clear Z0 K0 L0 CX hall B2 L2 hm
  obtain ⟨K, hK⟩ : ∃ K, K = key.take 16 := ⟨_, rfl⟩
  have hk16 : K.length = 16 := by rw [hK]; exact ht16.out
  rw [← hK] at B3
  have HK := Aside0.mk hk16
  have HKe := Aside0.mk hK
  clear hK hk16 ht16
  go_wp2
  go_loopw [4] (fun i wr => ∃ p j : Nat, p = 3 + 4 * j ∧ j ≤ 4 ∧ i = .int .i64 p ∧ Aside0 (Blk wr (w.heap.size + 1) 72 .u8 (andN K 3 15 j)) ∧ Aside0 (Blk wr w.heap.size 58 .u64 (List.replicate 5 0)) ∧ Aside0 (Below w.heap.size w wr)) (fun i _ => 20 - (intOf i).toNat)
  case atStart => exact ⟨3, 0, rfl, Nat.zero_le _, rfl, B3, Z2, L3⟩
  case round =>
    clear B3 Z2 L3 s2
    obtain ⟨p, j, hp, hj, rfl, H1, H2, H3⟩ := hrel
    by_cases hlt : p < 16
    · have p0 : (0 ≤ (p : Int)) = True := eq_true (by omega)
      have q0 : ((p : Int) < 16) = True := eq_true (by omega)
      have hcell : wr.cell? ⟨w.heap.size + 1, p, none⟩ = some (.int .u8 (rd (andN K 3 15 j) p)) := by
        have h := H1.out.cell (p : Int) (by omega) (by rw [andN_length, HK.out]; omega)
        rwa [Int.toNat_natCast] at h
      have hfz := H1.out.frozen p
      replace hp := Aside0.mk hp
      go_wp2
      go_roundw
      case rel =>
        refine ⟨p + 4, j + 1, by have := hp.out; omega, by have := hp.out; omega, by go_num, ?_, ?_, ?_⟩
        · have h := H1.out.set p (Go.bits .and .u8 (rd (andN K 3 15 j) p) 15)
          rw [andN, ← hp.out]
          exact ⟨h⟩
        · exact ⟨H2.out.far (by simp) _⟩
        · exact ⟨H3.out.setCell (by simp) _⟩
      case measure => simp [intOf]; omega
    · have q0 : ((p : Int) < 16) = False := eq_false (by omega)
      obtain rfl : j = 4 := by omega
      clear hp hlt
      obtain ⟨K2, hK2⟩ : ∃ K2, K2 = andN K 3 15 4 := ⟨_, rfl⟩
      have hk2 : K2.length = 16 := by rw [hK2, andN_length]; exact HK.out
      rw [← hK2] at H1
      have HK2 := Aside0.mk hk2
      have HK2e := Aside0.mk hK2
      clear hK2 hk2
      go_wp2
      go_loopw [5] (fun i ws => ∃ p j : Nat, p = 4 + 4 * j ∧ j ≤ 3 ∧ i = .int .i64 p ∧ Aside0 (Blk ws (w.heap.size + 1) 72 .u8 (andN K2 4 252 j)) ∧ Aside0 (Blk ws w.heap.size 58 .u64 (List.replicate 5 0)) ∧ Aside0 (Below w.heap.size w ws)) (fun i _ => 20 - (intOf i).toNat)
      case atStart => exact ⟨4, 0, rfl, Nat.zero_le _, rfl, H1, H2, H3⟩
      case round =>
        clear H1 H2 H3 q0
        obtain ⟨p, j, hp, hj, rfl, H1, H2, H3⟩ := hrel
        by_cases hlt : p < 16
        · have p0 : (0 ≤ (p : Int)) = True := eq_true (by omega)
          have q0 : ((p : Int) < 16) = True := eq_true (by omega)
          have hcell : wr.cell? ⟨w.heap.size + 1, p, none⟩ = some (.int .u8 (rd (andN K2 4 252 j) p)) := by
            have h := H1.out.cell (p : Int) (by omega) (by rw [andN_length, HK2.out]; omega)
            rwa [Int.toNat_natCast] at h
          have hfz := H1.out.frozen p
          replace hp := Aside0.mk hp
          go_wp2
          go_roundw
          case rel =>
            refine ⟨p + 4, j + 1, by have := hp.out; omega, by have := hp.out; omega, by go_num, ?_, ?_, ?_⟩
            · have h := H1.out.set p (Go.bits .and .u8 (rd (andN K2 4 252 j) p) 252)
              rw [andN, ← hp.out]
              exact ⟨h⟩
            · exact ⟨H2.out.far (by simp) _⟩
            · exact ⟨H3.out.setCell (by simp) _⟩
          case measure => simp [intOf]; omega
        · have q0 : ((p : Int) < 16) = False := eq_false (by omega)
          obtain rfl : j = 3 := by omega
          clear hp hlt
          have e3 : andN K2 4 252 3 = clampB key := by rw [HK2e.out, HKe.out]; rfl
          rw [e3] at H1
          have hl16 := clampB_length key (by have := H32.out; omega)
          have hln := ofW_length (clampB key)
          have hCb := Aside0.mk ((show Bk wr (w.heap.size + 1) 72 (nums .u8 (clampB key)) from ⟨H1.out.out⟩).readsC 0 (clampB key) (fun j hj => by rw [Nat.zero_add]) (by omega))
          have hall := slice_all16 wr (w.heap.size + 1)
          have hcall := Aside0.mk (of_any (some ⟨w.heap.size + 1, 0, none⟩) 16 (clampB key) wr hCb.out (by omega) (by omega) ho)
          rw [hl16] at hcall
          replace hl16 := Aside0.mk hl16
          clear H1 hCb e3
          go_wp2_with fail
          refine hcall.out.mono ?_
          rintro e w3 ⟨rfl, l3⟩
          have L4 := Aside0.mk (below_then H3.out H3.out.size l3)
          have Z4 := Aside0.mk (H2.out.below l3)
          clear l3 H3 H2 hcall hall
          go_wp2_with (refine store_blk rfl _ _ _ rfl rfl (ofW (clampB key)) rfl Z4.out 5 (by kernel_rfl) rfl hln ?_; intro w5 B5 g5 z5; replace B5 := Aside0.mk B5; replace g5 := Aside0.mk g5; clear z5)
          have L5 := L4.out.grown g5.out (by have := L4.out.size; omega) (by simp)
          exact bodyPost_ret (results_blk rfl _ rfl B5.out 5 56 (by kernel_rfl) (by kernel_rfl) hln) rfl ⟨rfl, L5⟩
end Go.Proofs.Ytllaobhheokafaa.Q
