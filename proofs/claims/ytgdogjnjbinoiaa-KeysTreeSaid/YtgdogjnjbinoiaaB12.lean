import Derived.Test.YtgdogjnjbinoiaaB11
import Derived.Test.YtgdogjnjbinoiaaHShaOthers
namespace Go.Proofs.Ytgdogjnjbinoiaa.Q
open Go.RowKit Go.Proofs.YtgdogjnjbinoiaaW.PrintWords Go.Proofs.YtgdogjnjbinoiaaW.PrintLast Go.Proofs.YtgdogjnjbinoiaaW.PrintMore Go.Proofs.Ytgdogjnjbinoiaa.H
set_option linter.unusedVariables false
set_option linter.unusedSimpArgs false
theorem rd_set_ne (l : List Int) (i j : Nat) (v : Int) (h : i ≠ j) : rd (l.set i v) j = rd l j := F.rd_set_ne l i j v h
theorem xorN_rd (K : List Int) (x : Int) : ∀ j i : Nat, j ≤ i → rd (xorN K x j) i = rd K i
  | 0, _, _ => rfl
  | j + 1, i, h => by rw [xorN, F.rd_set_ne _ _ _ _ (by omega), xorN_rd K x j i (by omega)]
theorem xorN_far (K : List Int) (x : Int) : ∀ (d j : Nat), (xorN K x (j + d)).take j = (xorN K x j).take j
  | 0, _ => rfl
  | d + 1, j => by
    rw [← Nat.add_assoc, xorN, List.take_set, List.set_eq_of_length_le (by simp; omega), xorN_far K x d j]
theorem xorN_take (K : List Int) (x : Int) (j : Nat) (h : j < K.length) (h64 : j < 64 := by omega) : (xorN K x 64).take (j + 1) = (xorN K x 64).take j ++ [Go.bits .xor .u8 (rd K j) x] := by
  have e1 := xorN_far K x (64 - (j + 1)) (j + 1)
  have e2 := xorN_far K x (64 - j) j
  rw [show j + 1 + (64 - (j + 1)) = 64 by omega] at e1
  rw [show j + (64 - j) = 64 by omega] at e2
  rw [e1, e2, xorN, F.take_set_succ _ _ _ (by rw [xorN_length]; exact h), xorN_rd K x j j (Nat.le_refl _)]
theorem keyW_in (k : List Int) (j : Nat) (h : j < k.length) : rd (keyW k) j = k.getD j 0 := by
  unfold rd keyW
  rw [List.getD_eq_getElem?_getD, List.getD_eq_getElem?_getD, Int.toNat_natCast, List.getElem?_append_left h]
theorem keyW_out (k : List Int) (j : Nat) (h : k.length ≤ j) : rd (keyW k) j = 0 := by
  unfold rd keyW
  rw [List.getD_eq_getElem?_getD, Int.toNat_natCast, List.getElem?_append_right h, List.getElem?_replicate]
  split <;> rfl
set_option maxHeartbeats 1000000 in
set_option maxRecDepth 100000 in
theorem pad_any (A : Option Addr) (c : Nat) (key : List Int) (x : Int) (w : World) (hr : Kd.C (Kd.int .u8) w A key.length key) (hc : key.length ≤ c) (hk : key.length ≤ 549755813888) (hb : F.Bytes key) :
    Calls Try.prog 55 #[.slice A key.length c, .int .u8 x] w fun e w' => ∃ v, e = .returned v ∧ Own w' w.heap.size 5 .u8 v (padW key x) ∧ Below w.heap.size w w' := by
  have HR := Aside0.mk hr
  clear hr
  go_enter Try.func55, Try.ntmps55
  by_cases hlong : 64 < key.length
  · have q0 : ((64 : Int) < (key.length : Int)) = True := eq_true (by omega)
    go_wp2_with fail
    refine (refsum_any A c key _ HR.out hc hk hb).mono ?_
    rintro e w1 ⟨v, rfl, O1, l1⟩
    have L1 := Aside0.mk l1
    have e32 := shaW_length key
    obtain ⟨g0, c0, rfl, _, hc0, hr0⟩ := O1.readsC (by rw [e32]; decide) (by rw [e32]; decide)
    have hs : shortW key = shaW key := if_pos hlong
    clear O1 l1
    generalize shaW key = k1 at e32 hc0 hr0 hs ⊢
    have hk64 : k1.length ≤ 64 := by omega
    replace e32 := Aside0.mk e32
    replace hs := Aside0.mk hs
    have CX := Aside0.mk (show Kd.C (Kd.int .u8) w1 (some ⟨g0, 0, none⟩) k1.length k1 from hr0)
    clear hr0

    have hz1 : w.heap.size ≤ w1.heap.size := L1.out.size
    go_wp2
    go_loopw [6, 7, 8] (fun v i _ wr => ∃ (j : Nat), j ≤ 64 ∧ i = .int .i64 j ∧ Aside0 (Own wr w1.heap.size 5 .u8 v ((xorN (keyW k1) x 64).take j)) ∧ Aside0 (Below w.heap.size w wr) ∧ Aside0 (Below w1.heap.size w1 wr)) (fun _ i _ _ => 64 - (intOf i).toNat)
    case atStart => exact ⟨0, by omega, rfl, ⟨by rw [List.take_zero]; exact Own.nil _ _ _ _⟩, L1, ⟨Below.refl _ _⟩⟩
    case round =>
      obtain ⟨j, hj, rfl, O1, L1, B1⟩ := hrel
      have hxl : (xorN (keyW k1) x 64).length = 64 := by rw [xorN_length]; exact keyW_length k1 (by omega)
      by_cases hlt : j < 64
      · have q1 : ((j : Int) < 64) = True := eq_true (by omega)
        have hnext := Aside0.mk (xorN_take (keyW k1) x j (by rw [keyW_length k1 (by omega)]; exact hlt))
        have hln : ((xorN (keyW k1) x 64).take j).length = j := by rw [List.length_take, hxl]; omega
        replace hln := Aside0.mk hln
        replace hxl := Aside0.mk hxl
        by_cases hin : j < k1.length
        · have q2 : ((j : Int) < (k1.length : Int)) = True := eq_true (by omega)
          obtain ⟨ad, hAd, hcell⟩ := (Kd.reads_of_C (enc := Value.int .u8) (d := (0 : Int)) (h1 := fun _ => rfl) (Kd.C_below CX.out (B1.out))).2.2 (show 0 < k1.length by omega)
          cases hAd
          have hc0 := hcell j hin
          first | rw [add_plain] at hc0 | skip
          obtain ⟨y, hy⟩ : ∃ y, y = k1.getD j 0 := ⟨_, rfl⟩
          rw [← hy] at hc0
          replace hy := Aside0.mk hy
          have hrd := Aside0.mk (keyW_in k1 j hin)
          clear hcell
          go_wp2_with (at_builtin; refine app_blk (k := .u8) (l := (xorN (keyW k1) x 64).take j) (base := w1.heap.size) (g2 := wr.heap.size) (c := 1) (t2 := 5) rfl _ _ 22 rfl Try.underlying22 1 info5 _ [Go.bits .xor .u8 y x] rfl (O1.out.alloc _) rfl (Blk.at0 _ _ _ _ _ rfl) (by decide) (by rw [hln.out]; simp; omega) (by have := B1.out.size; simp; omega) ?_; intro v' w' h1 h2 h3)
          refine ⟨⟨j + 1, by omega, by go_num, ⟨by rw [hnext.out, hrd.out, ← hy.out]; exact h1⟩, ⟨(L1.out.alloc L1.out.size _).grown h2 (by have := L1.out.size; simp; omega) (own_base (O1.out.lower hz1).out)⟩, ⟨(B1.out.alloc B1.out.size _).grown h2 (by have := B1.out.size; simp; omega) (own_base O1.out.out)⟩⟩, by simp [intOf]; omega⟩
        · have q2 : ((j : Int) < (k1.length : Int)) = False := eq_false (by omega)
          have hrd := Aside0.mk (keyW_out k1 j (by omega))
          go_wp2_with (at_builtin; refine app_blk (k := .u8) (l := (xorN (keyW k1) x 64).take j) (base := w1.heap.size) (g2 := wr.heap.size) (c := 1) (t2 := 5) rfl _ _ 22 rfl Try.underlying22 1 info5 _ [Go.bits .xor .u8 0 x] rfl (O1.out.alloc _) rfl (Blk.at0 _ _ _ _ _ rfl) (by decide) (by rw [hln.out]; simp; omega) (by have := B1.out.size; simp; omega) ?_; intro v' w' h1 h2 h3)
          refine ⟨⟨j + 1, by omega, by go_num, ⟨by rw [hnext.out, hrd.out]; exact h1⟩, ⟨(L1.out.alloc L1.out.size _).grown h2 (by have := L1.out.size; simp; omega) (own_base (O1.out.lower hz1).out)⟩, ⟨(B1.out.alloc B1.out.size _).grown h2 (by have := B1.out.size; simp; omega) (own_base O1.out.out)⟩⟩, by simp [intOf]; omega⟩
      · obtain rfl : j = 64 := by omega
        have q1 : (((64 : Nat) : Int) < 64) = False := eq_false (by omega)
        rw [List.take_of_length_le (by rw [hxl]; exact Nat.le_refl _)] at O1
        go_wp2
        go_ret
        exact ⟨_, rfl, by rw [padW, hs.out]; exact O1.out.lower hz1, L1.out⟩
  · have q0 : ((64 : Int) < (key.length : Int)) = False := eq_false (by omega)
    have hs := Aside0.mk (show shortW key = key from if_neg hlong)
    have CX := Aside0.mk HR.out
    have L0 := Aside0.mk (Below.refl w.heap.size w)

    go_wp2
    go_loopw [6, 7, 8] (fun v i _ wr => ∃ (j : Nat), j ≤ 64 ∧ i = .int .i64 j ∧ Aside0 (Own wr w.heap.size 5 .u8 v ((xorN (keyW key) x 64).take j)) ∧ Aside0 (Below w.heap.size w wr)) (fun _ i _ _ => 64 - (intOf i).toNat)
    case atStart => exact ⟨0, by omega, rfl, ⟨by rw [List.take_zero]; exact Own.nil _ _ _ _⟩, L0⟩
    case round =>
      obtain ⟨j, hj, rfl, O1, L1⟩ := hrel
      have hxl : (xorN (keyW key) x 64).length = 64 := by rw [xorN_length]; exact keyW_length key (by omega)
      by_cases hlt : j < 64
      · have q1 : ((j : Int) < 64) = True := eq_true (by omega)
        have hnext := Aside0.mk (xorN_take (keyW key) x j (by rw [keyW_length key (by omega)]; exact hlt))
        have hln : ((xorN (keyW key) x 64).take j).length = j := by rw [List.length_take, hxl]; omega
        replace hln := Aside0.mk hln
        replace hxl := Aside0.mk hxl
        by_cases hin : j < key.length
        · have q2 : ((j : Int) < (key.length : Int)) = True := eq_true (by omega)
          obtain ⟨ad, hAd, hcell⟩ := (Kd.reads_of_C (enc := Value.int .u8) (d := (0 : Int)) (h1 := fun _ => rfl) (Kd.C_below CX.out L1.out)).2.2 (show 0 < key.length by omega)
          cases hAd
          have hc0 := hcell j hin
          first | rw [add_plain] at hc0 | skip
          obtain ⟨y, hy⟩ : ∃ y, y = key.getD j 0 := ⟨_, rfl⟩
          rw [← hy] at hc0
          replace hy := Aside0.mk hy
          have hrd := Aside0.mk (keyW_in key j hin)
          clear hcell
          go_wp2_with (at_builtin; refine app_blk (k := .u8) (l := (xorN (keyW key) x 64).take j) (base := w.heap.size) (g2 := wr.heap.size) (c := 1) (t2 := 5) rfl _ _ 22 rfl Try.underlying22 1 info5 _ [Go.bits .xor .u8 y x] rfl (O1.out.alloc _) rfl (Blk.at0 _ _ _ _ _ rfl) (by decide) (by rw [hln.out]; simp; omega) (by have := L1.out.size; simp; omega) ?_; intro v' w' h1 h2 h3)
          refine ⟨⟨j + 1, by omega, by go_num, ⟨by rw [hnext.out, hrd.out, ← hy.out]; exact h1⟩, ⟨(L1.out.alloc L1.out.size _).grown h2 (by have := L1.out.size; simp; omega) (own_base O1.out.out)⟩⟩, by simp [intOf]; omega⟩
        · have q2 : ((j : Int) < (key.length : Int)) = False := eq_false (by omega)
          have hrd := Aside0.mk (keyW_out key j (by omega))
          go_wp2_with (at_builtin; refine app_blk (k := .u8) (l := (xorN (keyW key) x 64).take j) (base := w.heap.size) (g2 := wr.heap.size) (c := 1) (t2 := 5) rfl _ _ 22 rfl Try.underlying22 1 info5 _ [Go.bits .xor .u8 0 x] rfl (O1.out.alloc _) rfl (Blk.at0 _ _ _ _ _ rfl) (by decide) (by rw [hln.out]; simp; omega) (by have := L1.out.size; simp; omega) ?_; intro v' w' h1 h2 h3)
          refine ⟨⟨j + 1, by omega, by go_num, ⟨by rw [hnext.out, hrd.out]; exact h1⟩, ⟨(L1.out.alloc L1.out.size _).grown h2 (by have := L1.out.size; simp; omega) (own_base O1.out.out)⟩⟩, by simp [intOf]; omega⟩
      · obtain rfl : j = 64 := by omega
        have q1 : (((64 : Nat) : Int) < 64) = False := eq_false (by omega)
        rw [List.take_of_length_le (by rw [hxl]; exact Nat.le_refl _)] at O1
        go_wp2
        go_ret
        exact ⟨_, rfl, by rw [padW, hs.out]; exact O1.out, L1.out⟩
end Go.Proofs.Ytgdogjnjbinoiaa.Q
