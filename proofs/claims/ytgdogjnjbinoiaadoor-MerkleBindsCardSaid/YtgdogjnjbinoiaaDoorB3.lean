import Derived.Test.YtgdogjnjbinoiaaDoorDshaX
import Derived.Test.YtgdogjnjbinoiaaDoorDshabX
import Derived.Test.YtgdogjnjbinoiaaDoorDmerkX
import Derived.Test.YtgdogjnjbinoiaaDoorHarr
import Derived.Test.YtgdogjnjbinoiaaDoorB1
import Derived.Test.YtgdogjnjbinoiaaDoorB2
namespace Go.Proofs.YtgdogjnjbinoiaaDoor.Q
open Go.RowKit Go.Proofs.YtgdogjnjbinoiaaDoorW.PrintWords Go.Proofs.YtgdogjnjbinoiaaDoorW.PrintLast Go.Proofs.YtgdogjnjbinoiaaDoorW.PrintMore Go.Proofs.YtgdogjnjbinoiaaDoor.H
set_option linter.unusedVariables false
set_option linter.unusedSimpArgs false
set_option maxHeartbeats 1000000 in
set_option maxRecDepth 100000 in
theorem through_any (A : Option Addr) (c : Nat) (s p : List Int) (w : World) (hr : Kd.C (Kd.int .u8) w A p.length p) (hc : p.length ≤ c) (hp : p.length = 64) (hs : s.length = 8) :
    Calls Tryd.prog 56 #[.agg (nums .u32 s).toArray, .slice A p.length c] w fun e w' =>
      e = .returned (.agg (nums .u32 (throughW s p)).toArray) ∧ Below w.heap.size w w' := by
  have HW := Aside0.mk (show throughW s p = addN s (roundsN s kTable (schedN p 64) 64) 8 from rfl)
  have HR := Aside0.mk hr
  have HP := Aside0.mk hp
  have HS := Aside0.mk hs
  clear hr hp hs
  go_enter Tryd.func56, Tryd.ntmps56
  go_wp2_with fail
  refine (schedule_any A c p _ (by exact Kd.C_below HR.out (((Below.refl _ _).alloc (Nat.le_refl _) _).alloc (by simp) _)) hc HP.out).mono ?_
  rintro e w1 ⟨rfl, l1⟩
  have B2 := Aside0.mk (((Blk.at0 w 64 .u32 s _ rfl).alloc (.cells (nums .u32 (List.replicate 8 0)).toArray 64)).below l1)
  have Z4 := Aside0.mk ((Blk.at1 w (.cells (nums .u32 s).toArray 64) 64 .u32 (List.replicate 8 0) _ rfl).below l1)
  have L1 := Aside0.mk (below_then (((Below.refl w.heap.size w).alloc (Nat.le_refl _) (.cells (nums .u32 s).toArray 64)).alloc (by simp) (.cells (nums .u32 (List.replicate 8 0)).toArray 64)) (by simp; omega) l1)
  have hz1 : w.heap.size + 2 ≤ w1.heap.size := by have := l1.size; simpa using this
  clear l1
  go_wp2_with fail
  refine (table_any _).mono ?_
  rintro e w2 ⟨rfl, l2⟩
  replace B2 := Aside0.mk (B2.out.below l2)
  replace Z4 := Aside0.mk (Z4.out.below l2)
  replace L1 := Aside0.mk (below_then L1.out L1.out.size l2)
  have hz2 : w1.heap.size ≤ w2.heap.size := l2.size
  clear l2
  have hsl := Aside0.mk (schedN_length p 64)
  generalize schedN p 64 = W at hsl HW ⊢
  obtain ⟨KT, hkt⟩ : ∃ KT, KT = kTable := ⟨_, rfl⟩
  rw [← hkt] at HW ⊢
  have hkl : Aside0 (KT.length = 64) := ⟨by rw [hkt]; rfl⟩
  clear hkt
  go_wp2_with (first | (refine store_blk rfl _ _ _ rfl rfl W rfl ((Blk.at0 w2 _ .u32 (List.replicate 64 0) _ rfl).alloc _) 64 (by kernel_rfl) rfl hsl.out ?_; intro w3 B5 g3 z3; have Z6 := Aside0.mk ((Blk.at1 w2 _ 82 .u32 (List.replicate 64 0) _ rfl).grown g3 (by simp)); replace B5 := Aside0.mk B5; replace g3 := Aside0.mk g3; replace z3 := Aside0.mk z3) | (refine store_blk rfl _ _ _ rfl rfl KT rfl Z6.out 64 (by kernel_rfl) rfl hkl.out ?_; intro w4 B6 g4 z4; replace B6 := Aside0.mk B6; replace g4 := Aside0.mk g4; replace z4 := Aside0.mk z4))
  have hs2 := L1.out.size
  have hsz3 : w3.heap.size = w2.heap.size + 2 := by rw [z3.out]; simp
  have hsz4 : w4.heap.size = w3.heap.size := z4.out
  have L3 := ((L1.out.alloc L1.out.size (.cells (nums .u32 (List.replicate 64 0)).toArray 82)).alloc (by simp; omega) (.cells (nums .u32 (List.replicate 64 0)).toArray 82)).grown g3.out (by simp; omega) (by intro q hq; injection hq with hq; omega)
  have L4 := Aside0.mk (L3.grown g4.out (by omega) (by intro q hq; injection hq with hq; omega))
  replace B5 := Aside0.mk (B5.out.grown g4.out (by simp))
  replace B2 := Aside0.mk ((((B2.out.alloc _).alloc _).grown g3.out (by simp; omega)).grown g4.out (by simp; omega))
  replace Z4 := Aside0.mk ((((Z4.out.alloc _).alloc _).grown g3.out (by simp; omega)).grown g4.out (by simp; omega))
  clear g3 g4 z3 z4 Z6 L3 L1
  have s0 : w4.cell? ⟨w.heap.size, 0, none⟩ = some (.int .u32 (rd s 0)) := B2.out.cell 0 (by omega) (by rw [HS.out]; decide)
  have s1 : w4.cell? ⟨w.heap.size, 1, none⟩ = some (.int .u32 (rd s 1)) := B2.out.cell 1 (by omega) (by rw [HS.out]; decide)
  have s2 : w4.cell? ⟨w.heap.size, 2, none⟩ = some (.int .u32 (rd s 2)) := B2.out.cell 2 (by omega) (by rw [HS.out]; decide)
  have s3 : w4.cell? ⟨w.heap.size, 3, none⟩ = some (.int .u32 (rd s 3)) := B2.out.cell 3 (by omega) (by rw [HS.out]; decide)
  have s4 : w4.cell? ⟨w.heap.size, 4, none⟩ = some (.int .u32 (rd s 4)) := B2.out.cell 4 (by omega) (by rw [HS.out]; decide)
  have s5 : w4.cell? ⟨w.heap.size, 5, none⟩ = some (.int .u32 (rd s 5)) := B2.out.cell 5 (by omega) (by rw [HS.out]; decide)
  have s6 : w4.cell? ⟨w.heap.size, 6, none⟩ = some (.int .u32 (rd s 6)) := B2.out.cell 6 (by omega) (by rw [HS.out]; decide)
  have s7 : w4.cell? ⟨w.heap.size, 7, none⟩ = some (.int .u32 (rd s 7)) := B2.out.cell 7 (by omega) (by rw [HS.out]; decide)
  go_quiet (fail)
  generalize hw5 : World.drewN w4 _ = w5
  replace B2 := Aside0.mk (show Blk w5 _ _ _ _ from hw5 ▸ B2.out.drewN _)
  replace Z4 := Aside0.mk (show Blk w5 _ _ _ _ from hw5 ▸ Z4.out.drewN _)
  replace B5 := Aside0.mk (show Blk w5 _ _ _ _ from hw5 ▸ B5.out.drewN _)
  replace B6 := Aside0.mk (show Blk w5 _ _ _ _ from hw5 ▸ B6.out.drewN _)
  replace L4 := Aside0.mk (show Below w.heap.size w w5 from hw5 ▸ pw_below_drewN L4.out _)
  clear hw5 s0 s1 s2 s3 s4 s5 s6 s7
  go_wp2
  clear hsz3 hsz4
  have hst : ∃ a b c d e f g h : Int, s = [a, b, c, d, e, f, g, h] := by
    have := HS.out
    match s, this with
    | [a, b, c, d, e, f, g, h], _ => exact ⟨a, b, c, d, e, f, g, h, rfl⟩
  replace hst := Aside0.mk hst
  go_loopw [7, 8, 9, 10, 11, 12, 13, 14, 39] (fun v7 v8 v9 v10 v11 v12 v13 v14 i wr => ∃ (t : Nat) (a b c d e f g h : Int), t ≤ 64 ∧ i = .int .i64 t ∧ v7 = .int .u32 a ∧ v8 = .int .u32 b ∧ v9 = .int .u32 c ∧ v10 = .int .u32 d ∧ v11 = .int .u32 e ∧ v12 = .int .u32 f ∧ v13 = .int .u32 g ∧ v14 = .int .u32 h ∧ Aside0 (roundsN s KT W t = [a, b, c, d, e, f, g, h]) ∧ Aside0 (Blk wr w.heap.size 64 .u32 s) ∧ Aside0 (Blk wr (w.heap.size + 1) 64 .u32 (List.replicate 8 0)) ∧ Aside0 (Blk wr w2.heap.size 82 .u32 W) ∧ Aside0 (Blk wr (w2.heap.size + 1) 82 .u32 KT) ∧ Aside0 (Below w.heap.size w wr)) (fun _ _ _ _ _ _ _ _ i _ => 64 - (intOf i).toNat)
  case atStart =>
    obtain ⟨a, b, c, d, e, f, g, h, rfl⟩ := hst.out
    exact ⟨0, a, b, c, d, e, f, g, h, by omega, rfl, rfl, rfl, rfl, rfl, rfl, rfl, rfl, rfl, ⟨rfl⟩, B2, Z4, B5, B6, L4⟩
  case round =>
    clear B2 Z4 B5 B6 L4 hst
    obtain ⟨t, a, b, c, d, e, f, g, h, ht, rfl, rfl, rfl, rfl, rfl, rfl, rfl, rfl, rfl, HR8, B2, Z4, B5, B6, L4⟩ := hrel
    by_cases hlt : t < 64
    · have q0 : ((t : Int) < 64) = True := eq_true (by omega)
      have ck : wr.cell? ⟨w2.heap.size + 1, t, none⟩ = some (.int .u32 (rd KT t)) := B6.out.cellN t (by rw [hkl.out]; exact hlt)
      have cw : wr.cell? ⟨w2.heap.size, t, none⟩ = some (.int .u32 (rd W t)) := B5.out.cellN t (by rw [hsl.out]; exact hlt)
      go_wp2
      go_quiet ((go_at_call 64; with_reducible refine (rot_any _ _ _ (by decide)).mono ?_; rintro e w' ⟨rfl, ⟨nd, rfl⟩⟩; first | exact ⟨rfl, _, World.drewN_drewN _ _ _⟩ | exact ⟨rfl, _, Eq.trans (World.drewN_drewN _ _ _) (congrArg (World.drewN _) (Nat.add_assoc _ _ _))⟩))
      generalize hw6 : World.drewN wr _ = w6
      replace B2 := Aside0.mk (show Blk w6 _ _ _ _ from hw6 ▸ B2.out.drewN _)
      replace Z4 := Aside0.mk (show Blk w6 _ _ _ _ from hw6 ▸ Z4.out.drewN _)
      replace B5 := Aside0.mk (show Blk w6 _ _ _ _ from hw6 ▸ B5.out.drewN _)
      replace B6 := Aside0.mk (show Blk w6 _ _ _ _ from hw6 ▸ B6.out.drewN _)
      replace L4 := Aside0.mk (show Below w.heap.size w w6 from hw6 ▸ pw_below_drewN L4.out _)
      clear hw6 ck cw
      go_wp2_with (go_at_call 64; with_reducible refine (rot_any _ _ _ (by decide)).mono ?_; rintro e w' ⟨rfl, ⟨nd, rfl⟩⟩)
      refine ⟨⟨t + 1, _, a, b, c, _, e, f, g, by omega, by go_num, rfl, rfl, rfl, rfl, rfl, rfl, rfl, rfl, ⟨?_⟩, ⟨B2.out.drewN _⟩, ⟨Z4.out.drewN _⟩, ⟨B5.out.drewN _⟩, ⟨B6.out.drewN _⟩, ⟨pw_below_drewN L4.out _⟩⟩, by simp [intOf]; omega⟩
      rw [roundsN, HR8.out]
      rfl
    · obtain rfl : t = 64 := by omega
      have q0 : (((64 : Nat) : Int) < 64) = False := eq_false (by omega)
      rw [HR8.out] at HW
      clear B5 B6
      go_wp2
      obtain ⟨wo, rfl⟩ : ∃ wo : World, wo = wr := ⟨_, rfl⟩
      go_loopw [111] (fun i wr => ∃ k : Nat, k ≤ 8 ∧ i = .int .i64 k ∧ Aside0 (Blk wr w.heap.size 64 .u32 (addN s [a, b, c, d, e, f, g, h] k)) ∧ Aside0 (Blk wr (w.heap.size + 1) 64 .u32 (List.replicate 8 0)) ∧ Aside0 (Below w.heap.size w wr)) (fun i _ => 8 - (intOf i).toNat)
      case atStart => exact ⟨0, by omega, rfl, B2, Z4, L4⟩
      case round =>
        clear B2 Z4 L4
        obtain ⟨k, hk, rfl, B2, Z4, L4⟩ := hrel
        by_cases hlt2 : k < 8
        · have q1 : ((k : Int) < 8) = True := eq_true (by omega)
          have hix : ∀ w : World, (Instr.index 63 (.agg #[.int .u32 a, .int .u32 b, .int .u32 c, .int .u32 d, .int .u32 e, .int .u32 f, .int .u32 g, .int .u32 h]) (.int .i64 (k : Int))).run Tryd.prog w = .ok (.int .u32 (rd [a, b, c, d, e, f, g, h] k)) w :=
            index_agg (P := Tryd.prog) (t := 63) (e := 62) (n := 8) (k := .u32) (l := [a, b, c, d, e, f, g, h]) (by kernel_rfl) (by kernel_rfl) (by kernel_rfl) rfl (k : Int) (by omega) (by omega)
          have hc : wr.cell? ⟨w.heap.size, k, none⟩ = some (.int .u32 (rd (addN s [a, b, c, d, e, f, g, h] k) k)) := B2.out.cellN k (by rw [addN_length, HS.out]; exact hlt2)
          have hf := B2.out.frozen k
          go_wp2
          exact ⟨⟨k + 1, by omega, by go_num, ⟨B2.out.set k _⟩, ⟨Z4.out.far (by simp) _⟩, ⟨L4.out.setCell (Nat.le_refl _) _⟩⟩, by simp [intOf]; omega⟩
        · obtain rfl : k = 8 := by omega
          have q1 : (((8 : Nat) : Int) < 8) = False := eq_false (by omega)
          have hlen := Aside0.mk ((addN_length s [a, b, c, d, e, f, g, h] 8).trans HS.out)
          go_wp2_with (first | (refine load_blk rfl _ _ rfl rfl B2.out 8 62 (by kernel_rfl) (by kernel_rfl) hlen.out ?_) | (refine store_blk rfl _ _ _ rfl rfl (addN s [a, b, c, d, e, f, g, h] 8) rfl Z4.out 8 (by kernel_rfl) rfl hlen.out ?_; intro w3 B3 g3 z3; replace B3 := Aside0.mk B3; replace g3 := Aside0.mk g3; replace z3 := Aside0.mk z3))
          have L3 := L4.out.grown g3.out (by have := L4.out.size; omega) (by simp)
          rw [← HW.out] at B3
          refine bodyPost_ret (results_blk rfl _ rfl B3.out 8 62 (by kernel_rfl) (by kernel_rfl) (by rw [HW.out]; exact hlen.out)) rfl ⟨rfl, L3⟩
end Go.Proofs.YtgdogjnjbinoiaaDoor.Q
