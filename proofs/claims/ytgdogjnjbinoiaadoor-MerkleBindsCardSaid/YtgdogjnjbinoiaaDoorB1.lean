import Derived.Test.YtgdogjnjbinoiaaDoorDshaX
import Derived.Test.YtgdogjnjbinoiaaDoorDshabX
import Derived.Test.YtgdogjnjbinoiaaDoorDmerkX
import Derived.Test.YtgdogjnjbinoiaaDoorHarr
namespace Go.Proofs.YtgdogjnjbinoiaaDoor.Q
open Go.RowKit Go.Proofs.YtgdogjnjbinoiaaDoorW.PrintWords Go.Proofs.YtgdogjnjbinoiaaDoorW.PrintLast Go.Proofs.YtgdogjnjbinoiaaDoorW.PrintMore Go.Proofs.YtgdogjnjbinoiaaDoor.H
set_option linter.unusedVariables false
set_option linter.unusedSimpArgs false
theorem rot_any (x n : Int) (w : World) (h : n = 2 ∨ n = 6 ∨ n = 7 ∨ n = 11 ∨ n = 13 ∨ n = 17 ∨ n = 18 ∨ n = 19 ∨ n = 22 ∨ n = 25) :
    Calls Tryd.prog 64 #[.int .u32 x, .int .i64 n] w fun e w' => e = .returned (.int .u32 (rr x n)) ∧ Drawn0 w w' := sha_rot.calls x n _ w (rr_f x n h)
def sha_schedule.T12 : Bool × List (List Nat × List Nat) := (true, [([], []), ([], []), ([1], [1]), ([2], [2]), ([3], [3]), ([], []), ([5], [5]), ([], []), ([7, 6], [7]), ([6, 8], [6, 8]), ([], []), ([10], [10]), ([9, 11], [9, 11]), ([4, 12], [4, 12]), ([], []), ([14], [14]), ([15], [15]), ([16], [16]), ([13, 17], [13, 17]), ([], []), ([19, 8], [19]), ([], []), ([21, 20], [21]), ([20, 22], [20, 22]), ([], []), ([24], [24]), ([23, 25], [23, 25]), ([18, 26], [18, 26]), ([0, 0, 1, 2, 3, 4, 5, 6, 7, 8, 9, 10, 11, 12, 13, 14, 15, 16, 17, 18, 19, 20, 21, 22, 23, 24, 25, 26, 27], [0]), ([28, 27, 22, 0, 1, 2, 3, 4, 5, 6, 7, 8, 9, 10, 11, 12, 13, 14, 15, 16, 17, 18, 19, 20, 21, 22, 23, 24, 25, 26, 27], [27, 28])])
def sha_schedule.B12 : List Nat := [0, 0, 2, 6, 14, 0, 32, 0, 224, 480, 0, 1024, 4064, 8190, 0, 16384, 49152, 114688, 262142, 0, 524768, 0, 3670496, 7864800, 0, 16777216, 66585056, 134217726, 268435455, 536870911]
theorem sha_schedule.tab12 : rtab .any (opsOf Tryd.f62 12) = sha_schedule.T12 := by kernel_rfl
theorem sha_schedule.bits12 : waitsOk sha_schedule.T12.2 sha_schedule.B12 = true := by kernel_rfl
set_option maxHeartbeats 1000000 in
set_option maxRecDepth 100000 in
theorem schedule_any (A : Option Addr) (c : Nat) (p : List Int) (w : World) (hr : Kd.C (Kd.int .u8) w A p.length p) (hc : p.length ≤ c) (hp : p.length = 64) :
    Calls Tryd.prog 62 #[.slice A p.length c] w fun e w' =>
      e = .returned (.agg (nums .u32 (schedN p 64)).toArray) ∧ Below w.heap.size w w' := by
  have HR := Aside0.mk hr
  have HP := Aside0.mk hp
  clear hr hp
  have hp64 : p.length ≤ 64 := by rw [HP.out]; exact Nat.le_refl _
  obtain ⟨i0, hi0, _, hsz0, _⟩ := info_parts info5
  go_enter Tryd.func62, Tryd.ntmps62
  go_wp2
  have Z0 := Aside0.mk ((Blk.new w 82 .u32 (List.replicate 64 0)).alloc (.cells (nums .u32 (List.replicate 64 0)).toArray 82))
  have B0 := Aside0.mk (Blk.at1 w (.cells (nums .u32 (List.replicate 64 0)).toArray 82) 82 .u32 (List.replicate 64 0) _ rfl)
  have L0 := Aside0.mk (((Below.refl w.heap.size w).alloc (Nat.le_refl _) (.cells (nums .u32 (List.replicate 64 0)).toArray 82)).alloc (by simp) (.cells (nums .u32 (List.replicate 64 0)).toArray 82))
  change Code.wp _ _ _ _ ((w.alloc (.cells (nums .u32 (List.replicate 64 0)).toArray 82)).alloc (.cells (nums .u32 (List.replicate 64 0)).toArray 82))
  generalize (w.alloc (.cells (nums .u32 (List.replicate 64 0)).toArray 82)).alloc (.cells (nums .u32 (List.replicate 64 0)).toArray 82) = W0 at B0 Z0 L0 ⊢
  go_loopw [9] (fun i wr => ∃ t : Nat, t ≤ 64 ∧ i = .int .i64 t ∧ Aside0 (Blk wr (w.heap.size + 1) 82 .u32 (schedN p t)) ∧ Aside0 (Blk wr w.heap.size 82 .u32 (List.replicate 64 0)) ∧ Aside0 (Below w.heap.size w wr)) (fun i _ => 64 - (intOf i).toNat)
  case atStart => exact ⟨0, by omega, rfl, B0, Z0, L0⟩
  case round =>
    clear B0 Z0 L0
    obtain ⟨t, ht, rfl, B1, Z1, L1⟩ := hrel
    by_cases hlt : t < 64
    · have q0 : ((t : Int) < 64) = True := eq_true (by omega)
      by_cases h16 : t < 16
      · have q1 : ((t : Int) < 16) = True := eq_true (by omega)
        obtain ⟨A', hcut, hrd, hcl⟩ := print_mid_of (P := Tryd.prog) (Value.int .u8) 0 31 5 .i64 .i64 Tryd.underlying31 hi0 hsz0 A c p (4 * (t : Int)) (4 * (t : Int) + 4) (by omega) (by omega) (by rw [HP.out]; omega) hc
        have hsub := hrd w (Kd.reads_of_C HR.out)
        have e4 : ((p.take (4 * (t : Int) + 4).toNat).drop (4 * (t : Int)).toNat).length = 4 := by have := HP.out; simp; omega
        rw [e4] at hcut hsub
        obtain ⟨ad, rfl, hsubc⟩ := hsub.2.2 (by omega)
        have SC : Aside0 (∀ j : Nat, j < 4 → w.cell? (ad.add j) = some (.int .u8 (rd p (4 * t + j : Nat)))) := ⟨fun j hj => by
          rw [hsubc j hj]
          congr 2
          simp only [rd, Int.toNat_natCast, List.getD_eq_getElem?_getD, List.getElem?_drop, List.getElem?_take]
          rw [if_pos (by omega)]
          congr 2 <;> omega⟩
        clear hsubc hsub hrd e4
        go_wp2
        obtain ⟨wo, rfl⟩ : ∃ wo : World, wo = wr := ⟨_, rfl⟩
        go_loopw [22] (fun i wr => ∃ j : Nat, j ≤ 4 ∧ i = .int .i64 j ∧ Aside0 (Blk wr (w.heap.size + 1) 82 .u32 ((schedN p t).set t (beN p t j))) ∧ Aside0 (Blk wr w.heap.size 82 .u32 (List.replicate 64 0)) ∧ Aside0 (Below w.heap.size w wr)) (fun i _ => 4 - (intOf i).toNat)
        case atStart => exact ⟨0, by omega, rfl, ⟨by
          have e : (schedN p t).set t (beN p t 0) = schedN p t := by
            have h0 := schedN_zero p t t (Nat.le_refl _) hlt
            have hl := schedN_length p t
            apply List.ext_getElem
            · simp
            · intro i h1 h2
              rw [List.getElem_set]
              split
              · rename_i he
                subst he
                simp [rd, List.getD_eq_getElem?_getD, h2] at h0
                rw [h0]; rfl
              · rfl
          rw [e]; exact B1.out⟩, Z1, L1⟩
        case round =>
          clear B1 Z1 L1
          obtain ⟨j, hj, rfl, B1, Z1, L1⟩ := hrel
          by_cases hlt2 : j < 4
          · have q2 : ((j : Int) < 4) = True := eq_true (by omega)
            have hx0 := SC.out j (by omega)
            have hx : wr.cell? (ad.add j) = some (.int .u8 (rd p (4 * t + j : Nat))) := (L1.out.cell (World.block_lt_of_cell? w _ hx0)).trans hx0
            clear hx0
            have hcl := B1.out.cellN t (by rw [List.length_set, schedN_length]; omega)
            have hfz := B1.out.frozen t
            rw [show ((schedN p t).set t (beN p t j)).getD t 0 = beN p t j by rw [List.getD_eq_getElem?_getD, List.getElem?_set_self (by rw [schedN_length]; omega)]; rfl] at hcl
            go_wp2
            refine ⟨⟨j + 1, by omega, by go_num, ⟨?_⟩, ⟨Z1.out.far (by simp) _⟩, ⟨L1.out.setCell (by simp) _⟩⟩, by simp [intOf]; omega⟩
            have := B1.out.set t (beN p t (j + 1))
            rw [List.set_set] at this
            exact this
          · have q2 : ((j : Int) < 4) = False := eq_false (by omega)
            have j4 : j = 4 := by omega
            replace B1 : Aside0 (Blk wr (w.heap.size + 1) 82 .u32 (schedN p (t + 1))) := ⟨by have := B1.out; rw [j4] at this; unfold schedN; rw [if_pos h16]; exact this⟩
            clear j4
            go_wp2
            exact ⟨⟨t + 1, by omega, by go_num, B1, Z1, L1⟩, by simp [intOf]; omega⟩
      · have q1 : ((t : Int) < 16) = False := eq_false (by omega)
        have c15 : wr.cell? ⟨w.heap.size + 1, t - 15, none⟩ = some (.int .u32 (rd (schedN p t) ((t : Int) - 15))) := by
          have := B1.out.cell ((t : Int) - 15) (by omega) (by rw [schedN_length]; omega)
          rwa [show ((t : Int) - 15).toNat = t - 15 by omega] at this
        have c2 : wr.cell? ⟨w.heap.size + 1, t - 2, none⟩ = some (.int .u32 (rd (schedN p t) ((t : Int) - 2))) := by
          have := B1.out.cell ((t : Int) - 2) (by omega) (by rw [schedN_length]; omega)
          rwa [show ((t : Int) - 2).toNat = t - 2 by omega] at this
        have p15 : (0 ≤ (t : Int) - 15) = True := eq_true (by omega)
        have p15' : ((t : Int) - 15 < 64) = True := eq_true (by omega)
        have p2 : (0 ≤ (t : Int) - 2) = True := eq_true (by omega)
        have p2' : ((t : Int) - 2 < 64) = True := eq_true (by omega)
        go_wp2
        go_quiet (fail)
        go_wp2
        generalize hw1 : World.drewN wr _ = w1
        have B2 := Aside0.mk (show Blk w1 (w.heap.size + 1) 82 .u32 (schedN p t) from hw1 ▸ B1.out.drewN _)
        have Z2 := Aside0.mk (show Blk w1 w.heap.size 82 .u32 (List.replicate 64 0) from hw1 ▸ Z1.out.drewN _)
        have L2 := Aside0.mk (show Below w.heap.size w w1 from hw1 ▸ pw_below_drewN L1.out _)
        clear hw1 B1 Z1 L1 c15 c2
        have p16 : (0 ≤ (t : Int) - 16) = True := eq_true (by omega)
        have p16' : ((t : Int) - 16 < 64) = True := eq_true (by omega)
        have p7 : (0 ≤ (t : Int) - 7) = True := eq_true (by omega)
        have p7' : ((t : Int) - 7 < 64) = True := eq_true (by omega)
        have w16 : wrap64 ((t : Int) - 16) = (t : Int) - 16 := by unfold wrap64; omega
        have w7 : wrap64 ((t : Int) - 7) = (t : Int) - 7 := by unfold wrap64; omega
        have g16 : (16 ≤ (t : Int)) = True := eq_true (by omega)
        have g7 : (7 ≤ (t : Int)) = True := eq_true (by omega)
        have n16 : ((t : Int) - 16).toNat = t - 16 := by omega
        have n7 : ((t : Int) - 7).toNat = t - 7 := by omega
        have h16' := Aside0.mk h16
        have hlt' := Aside0.mk hlt
        refine start_ (n := 30) (S := fun w' => Aside0 (Blk w' (w.heap.size + 1) 82 .u32 (schedN p t))) (ds := [29]) #[false, false, false, false, false, false, false, false, false, false, false, false, false, false, false, false, false, false, false, false, false, false, false, false, false, false, false, false, false, false] (by kernel_rfl) rfl rfl ⟨B2.out.drew⟩ (fun hHeld => ?_)
        refine with_tabW sha_schedule.tab12 sha_schedule.bits12 (fun HT_ HW_ => ?_)
        have Z1 := Aside0.mk (Z2.out.drew)
        have BL := Aside0.mk (L2.out.drew)
        clear Z2 L2
        generalize w1.drew = w2 at Z1 BL hHeld ⊢
        refine pure_ (i := 0) (N := some 44) (v := ?_) (a' := ?_) #[true, false, false, false, false, false, false, false, false, false, false, false, false, false, false, false, false, false, false, false, false, false, false, false, false, false, false, false, false, false] rfl rfl (any_of HT_.out (by kernel_rfl)) (fun _ _ _ h => h) (Or.inl ⟨by rfl, ?_⟩) ?_ ?_
        rotate_left
        · intro w'
          go_simp
          with_reducible rfl
        rotate_left
        · simp only [Act.put, List.setIfInBounds_toArray, List.set_cons_zero, List.set_cons_succ, i64_w, i32_w]
          rfl
        refine pure_ (i := 1) (N := some 45) (v := ?_) (a' := ?_) #[true, true, false, false, false, false, false, false, false, false, false, false, false, false, false, false, false, false, false, false, false, false, false, false, false, false, false, false, false, false] rfl rfl (any_of HT_.out (by kernel_rfl)) (fun _ _ _ h => h) (Or.inl ⟨by rfl, ?_⟩) ?_ ?_
        rotate_left
        · intro w'
          go_simp
          with_reducible rfl
        rotate_left
        · simp only [Act.put, List.setIfInBounds_toArray, List.set_cons_zero, List.set_cons_succ, i64_w, i32_w]
          rfl
        refine pure_ (i := 2) (N := some 46) (v := ?_) (a' := ?_) #[true, true, true, false, false, false, false, false, false, false, false, false, false, false, false, false, false, false, false, false, false, false, false, false, false, false, false, false, false, false] rfl rfl (any_of HT_.out (by kernel_rfl)) (fun _ _ _ h => h) (Or.inl ⟨by rfl, ?_⟩) ?_ ?_
        rotate_left
        · intro w'
          go_simp
          with_reducible rfl
        rotate_left
        · simp only [Act.put, List.setIfInBounds_toArray, List.set_cons_zero, List.set_cons_succ, i64_w, i32_w]
          rfl
        refine pure_ (i := 3) (N := some 47) (v := ?_) (a' := ?_) #[true, true, true, true, false, false, false, false, false, false, false, false, false, false, false, false, false, false, false, false, false, false, false, false, false, false, false, false, false, false] rfl rfl (any_of HT_.out (by kernel_rfl)) (fun _ _ _ h => h) (Or.inl ⟨by rfl, ?_⟩) ?_ ?_
        rotate_left
        · intro w'
          go_simp
          with_reducible rfl
        rotate_left
        · simp only [Act.put, List.setIfInBounds_toArray, List.set_cons_zero, List.set_cons_succ, i64_w, i32_w]
          rfl
        refine take_ (i := 4) (N := some 48) (v := ?_) (a' := ?_) #[true, true, true, true, true, false, false, false, false, false, false, false, false, false, false, false, false, false, false, false, false, false, false, false, false, false, false, false, false, false] rfl rfl (take_ofW HT_.out HW_.out (by kernel_rfl)) (fun _ _ _ h => h) (Or.inl ⟨by rfl, ?_⟩) hHeld ?_ ?_
        rotate_left
        · intro w' hS'
          have hc : w'.cell? ⟨w.heap.size + 1, t - 16, none⟩ = some (.int .u32 (rd (schedN p t) ((t : Int) - 16))) := by
            have := hS'.out.cell ((t : Int) - 16) (by have := h16'.out; omega) (by rw [schedN_length]; have := hlt'.out; omega)
            rwa [show ((t : Int) - 16).toNat = t - 16 by omega] at this
          go_simp
          with_reducible rfl
        rotate_left
        · simp only [Act.put, List.setIfInBounds_toArray, List.set_cons_zero, List.set_cons_succ, i64_w, i32_w]
          rfl
        refine pure_ (i := 5) (N := some 49) (v := ?_) (a' := ?_) #[true, true, true, true, true, true, false, false, false, false, false, false, false, false, false, false, false, false, false, false, false, false, false, false, false, false, false, false, false, false] rfl rfl (any_of HT_.out (by kernel_rfl)) (fun _ _ _ h => h) (Or.inl ⟨by rfl, ?_⟩) ?_ ?_
        rotate_left
        · intro w'
          go_simp
          with_reducible rfl
        rotate_left
        · simp only [Act.put, List.setIfInBounds_toArray, List.set_cons_zero, List.set_cons_succ, i64_w, i32_w]
          rfl
        refine pure_ (i := 7) (N := some 51) (v := ?_) (a' := ?_) #[true, true, true, true, true, true, false, true, false, false, false, false, false, false, false, false, false, false, false, false, false, false, false, false, false, false, false, false, false, false] rfl rfl (any_of HT_.out (by kernel_rfl)) (fun _ _ _ h => h) (Or.inl ⟨by rfl, ?_⟩) ?_ ?_
        rotate_left
        · intro w'
          go_simp
          with_reducible rfl
        rotate_left
        · simp only [Act.put, List.setIfInBounds_toArray, List.set_cons_zero, List.set_cons_succ, i64_w, i32_w]
          rfl
        refine pure_ (i := 10) (N := some 54) (v := ?_) (a' := ?_) #[true, true, true, true, true, true, false, true, false, false, true, false, false, false, false, false, false, false, false, false, false, false, false, false, false, false, false, false, false, false] rfl rfl (any_of HT_.out (by kernel_rfl)) (fun _ _ _ h => h) (Or.inl ⟨by rfl, ?_⟩) ?_ ?_
        rotate_left
        · intro w'
          go_simp
          with_reducible rfl
        rotate_left
        · simp only [Act.put, List.setIfInBounds_toArray, List.set_cons_zero, List.set_cons_succ, i64_w, i32_w]
          rfl
        refine pure_ (i := 11) (N := some 55) (v := ?_) (a' := ?_) #[true, true, true, true, true, true, false, true, false, false, true, true, false, false, false, false, false, false, false, false, false, false, false, false, false, false, false, false, false, false] rfl rfl (any_of HT_.out (by kernel_rfl)) (fun _ _ _ h => h) (Or.inl ⟨by rfl, ?_⟩) ?_ ?_
        rotate_left
        · intro w'
          go_simp
          with_reducible rfl
        rotate_left
        · simp only [Act.put, List.setIfInBounds_toArray, List.set_cons_zero, List.set_cons_succ, i64_w, i32_w]
          rfl
        refine pure_ (i := 14) (N := some 58) (v := ?_) (a' := ?_) #[true, true, true, true, true, true, false, true, false, false, true, true, false, false, true, false, false, false, false, false, false, false, false, false, false, false, false, false, false, false] rfl rfl (any_of HT_.out (by kernel_rfl)) (fun _ _ _ h => h) (Or.inl ⟨by rfl, ?_⟩) ?_ ?_
        rotate_left
        · intro w'
          go_simp
          with_reducible rfl
        rotate_left
        · simp only [Act.put, List.setIfInBounds_toArray, List.set_cons_zero, List.set_cons_succ, i64_w, i32_w]
          rfl
        refine pure_ (i := 15) (N := some 59) (v := ?_) (a' := ?_) #[true, true, true, true, true, true, false, true, false, false, true, true, false, false, true, true, false, false, false, false, false, false, false, false, false, false, false, false, false, false] rfl rfl (any_of HT_.out (by kernel_rfl)) (fun _ _ _ h => h) (Or.inl ⟨by rfl, ?_⟩) ?_ ?_
        rotate_left
        · intro w'
          go_simp
          with_reducible rfl
        rotate_left
        · simp only [Act.put, List.setIfInBounds_toArray, List.set_cons_zero, List.set_cons_succ, i64_w, i32_w]
          rfl
        refine pure_ (i := 16) (N := some 60) (v := ?_) (a' := ?_) #[true, true, true, true, true, true, false, true, false, false, true, true, false, false, true, true, true, false, false, false, false, false, false, false, false, false, false, false, false, false] rfl rfl (any_of HT_.out (by kernel_rfl)) (fun _ _ _ h => h) (Or.inl ⟨by rfl, ?_⟩) ?_ ?_
        rotate_left
        · intro w'
          go_simp
          with_reducible rfl
        rotate_left
        · simp only [Act.put, List.setIfInBounds_toArray, List.set_cons_zero, List.set_cons_succ, i64_w, i32_w]
          rfl
        refine take_ (i := 17) (N := some 61) (v := ?_) (a' := ?_) #[true, true, true, true, true, true, false, true, false, false, true, true, false, false, true, true, true, true, false, false, false, false, false, false, false, false, false, false, false, false] rfl rfl (take_ofW HT_.out HW_.out (by kernel_rfl)) (fun _ _ _ h => h) (Or.inl ⟨by rfl, ?_⟩) hHeld ?_ ?_
        rotate_left
        · intro w' hS'
          have hc : w'.cell? ⟨w.heap.size + 1, t - 7, none⟩ = some (.int .u32 (rd (schedN p t) ((t : Int) - 7))) := by
            have := hS'.out.cell ((t : Int) - 7) (by have := h16'.out; omega) (by rw [schedN_length]; have := hlt'.out; omega)
            rwa [show ((t : Int) - 7).toNat = t - 7 by have := h16'.out; omega] at this
          go_simp
          with_reducible rfl
        rotate_left
        · simp only [Act.put, List.setIfInBounds_toArray, List.set_cons_zero, List.set_cons_succ, i64_w, i32_w]
          rfl
        refine pure_ (i := 19) (N := some 63) (v := ?_) (a' := ?_) #[true, true, true, true, true, true, false, true, false, false, true, true, false, false, true, true, true, true, false, true, false, false, false, false, false, false, false, false, false, false] rfl rfl (any_of HT_.out (by kernel_rfl)) (fun _ _ _ h => h) (Or.inl ⟨by rfl, ?_⟩) ?_ ?_
        rotate_left
        · intro w'
          go_simp
          with_reducible rfl
        rotate_left
        · simp only [Act.put, List.setIfInBounds_toArray, List.set_cons_zero, List.set_cons_succ, i64_w, i32_w]
          rfl
        refine pure_ (i := 21) (N := some 65) (v := ?_) (a' := ?_) #[true, true, true, true, true, true, false, true, false, false, true, true, false, false, true, true, true, true, false, true, false, true, false, false, false, false, false, false, false, false] rfl rfl (any_of HT_.out (by kernel_rfl)) (fun _ _ _ h => h) (Or.inl ⟨by rfl, ?_⟩) ?_ ?_
        rotate_left
        · intro w'
          go_simp
          with_reducible rfl
        rotate_left
        · simp only [Act.put, List.setIfInBounds_toArray, List.set_cons_zero, List.set_cons_succ, i64_w, i32_w]
          rfl
        refine pure_ (i := 24) (N := some 68) (v := ?_) (a' := ?_) #[true, true, true, true, true, true, false, true, false, false, true, true, false, false, true, true, true, true, false, true, false, true, false, false, true, false, false, false, false, false] rfl rfl (any_of HT_.out (by kernel_rfl)) (fun _ _ _ h => h) (Or.inl ⟨by rfl, ?_⟩) ?_ ?_
        rotate_left
        · intro w'
          go_simp
          with_reducible rfl
        rotate_left
        · simp only [Act.put, List.setIfInBounds_toArray, List.set_cons_zero, List.set_cons_succ, i64_w, i32_w]
          rfl
        refine pure_ (i := 25) (N := some 69) (v := ?_) (a' := ?_) #[true, true, true, true, true, true, false, true, false, false, true, true, false, false, true, true, true, true, false, true, false, true, false, false, true, true, false, false, false, false] rfl rfl (any_of HT_.out (by kernel_rfl)) (fun _ _ _ h => h) (Or.inl ⟨by rfl, ?_⟩) ?_ ?_
        rotate_left
        · intro w'
          go_simp
          with_reducible rfl
        rotate_left
        · simp only [Act.put, List.setIfInBounds_toArray, List.set_cons_zero, List.set_cons_succ, i64_w, i32_w]
          rfl
        refine one_ (i := 6) (N := some 50) #[true, true, true, true, true, true, true, true, false, false, true, true, false, false, true, true, true, true, false, true, false, true, false, false, true, true, false, false, false, false] rfl rfl (one_of HT_.out (by kernel_rfl)) (by decide) (fun K hK => ?_)
        refine goes_ Tryd.func64 (by kernel_rfl) rfl #[.int .u32 (rd (schedN p t) ((t : Int) - 15)), .int .i64 7] (by rfl) rfl rfl (by (try simp only [List.map_toArray, List.map_cons, List.map_nil]); first | done | rfl) ?_
        with_reducible refine (rot_any (rd (schedN p t) ((t : Int) - 15)) 7 _ (by decide)).mono ?_
        rintro e w' ⟨rfl, ⟨nd, rfl⟩⟩
        refine ⟨_, rfl, ?_⟩
        have n1_ := Aside0.mk (pw_below_drewN BL.out nd)
        have n2_ := Aside0.mk (Z1.out.drewN nd)
        refine hK.out _ _ ⟨hHeld.out.drewN nd⟩ (fun hHeld => ?_)
        clear BL Z1 hK K
        have BL := n1_
        have Z1 := n2_
        clear n1_ n2_
        generalize World.drewN w2 nd = w3 at hHeld BL Z1 ⊢
        refine norm_ (a' := ?_) ?_ ?_
        rotate_left
        · show Act.put _ (some 50) _ = _
          simp only [Act.put, List.setIfInBounds_toArray, List.set_cons_zero, List.set_cons_succ, i64_w, i32_w]
          rfl
        refine one_ (i := 8) (N := some 52) #[true, true, true, true, true, true, true, true, true, false, true, true, false, false, true, true, true, true, false, true, false, true, false, false, true, true, false, false, false, false] rfl rfl (one_of HT_.out (by kernel_rfl)) (by decide) (fun K hK => ?_)
        refine goes_ Tryd.func64 (by kernel_rfl) rfl #[.int .u32 (rd (schedN p t) ((t : Int) - 15)), .int .i64 18] (by rfl) rfl rfl (by (try simp only [List.map_toArray, List.map_cons, List.map_nil]); first | done | rfl) ?_
        with_reducible refine (rot_any (rd (schedN p t) ((t : Int) - 15)) 18 _ (by decide)).mono ?_
        rintro e w' ⟨rfl, ⟨nd, rfl⟩⟩
        refine ⟨_, rfl, ?_⟩
        have n1_ := Aside0.mk (pw_below_drewN BL.out nd)
        have n2_ := Aside0.mk (Z1.out.drewN nd)
        refine hK.out _ _ ⟨hHeld.out.drewN nd⟩ (fun hHeld => ?_)
        clear BL Z1 hK K
        have BL := n1_
        have Z1 := n2_
        clear n1_ n2_
        generalize World.drewN w3 nd = w4 at hHeld BL Z1 ⊢
        refine norm_ (a' := ?_) ?_ ?_
        rotate_left
        · show Act.put _ (some 52) _ = _
          simp only [Act.put, List.setIfInBounds_toArray, List.set_cons_zero, List.set_cons_succ, i64_w, i32_w]
          rfl
        refine pure_ (i := 9) (N := some 53) (v := ?_) (a' := ?_) #[true, true, true, true, true, true, true, true, true, true, true, true, false, false, true, true, true, true, false, true, false, true, false, false, true, true, false, false, false, false] rfl rfl (any_of HT_.out (by kernel_rfl)) (fun _ _ _ h => h) (Or.inl ⟨by rfl, ?_⟩) ?_ ?_
        rotate_left
        · intro w'
          go_simp
          with_reducible rfl
        rotate_left
        · simp only [Act.put, List.setIfInBounds_toArray, List.set_cons_zero, List.set_cons_succ, i64_w, i32_w]
          rfl
        refine pure_ (i := 12) (N := some 56) (v := ?_) (a' := ?_) #[true, true, true, true, true, true, true, true, true, true, true, true, true, false, true, true, true, true, false, true, false, true, false, false, true, true, false, false, false, false] rfl rfl (any_of HT_.out (by kernel_rfl)) (fun _ _ _ h => h) (Or.inl ⟨by rfl, ?_⟩) ?_ ?_
        rotate_left
        · intro w'
          go_simp
          with_reducible rfl
        rotate_left
        · simp only [Act.put, List.setIfInBounds_toArray, List.set_cons_zero, List.set_cons_succ, i64_w, i32_w]
          rfl
        refine pure_ (i := 13) (N := some 57) (v := ?_) (a' := ?_) #[true, true, true, true, true, true, true, true, true, true, true, true, true, true, true, true, true, true, false, true, false, true, false, false, true, true, false, false, false, false] rfl rfl (any_of HT_.out (by kernel_rfl)) (fun _ _ _ h => h) (Or.inl ⟨by rfl, ?_⟩) ?_ ?_
        rotate_left
        · intro w'
          go_simp
          with_reducible rfl
        rotate_left
        · simp only [Act.put, List.setIfInBounds_toArray, List.set_cons_zero, List.set_cons_succ, i64_w, i32_w]
          rfl
        refine pure_ (i := 18) (N := some 62) (v := ?_) (a' := ?_) #[true, true, true, true, true, true, true, true, true, true, true, true, true, true, true, true, true, true, true, true, false, true, false, false, true, true, false, false, false, false] rfl rfl (any_of HT_.out (by kernel_rfl)) (fun _ _ _ h => h) (Or.inl ⟨by rfl, ?_⟩) ?_ ?_
        rotate_left
        · intro w'
          go_simp
          with_reducible rfl
        rotate_left
        · simp only [Act.put, List.setIfInBounds_toArray, List.set_cons_zero, List.set_cons_succ, i64_w, i32_w]
          rfl
        refine one_ (i := 20) (N := some 64) #[true, true, true, true, true, true, true, true, true, true, true, true, true, true, true, true, true, true, true, true, true, true, false, false, true, true, false, false, false, false] rfl rfl (one_of HT_.out (by kernel_rfl)) (by decide) (fun K hK => ?_)
        refine goes_ Tryd.func64 (by kernel_rfl) rfl #[.int .u32 (rd (schedN p t) ((t : Int) - 2)), .int .i64 17] (by rfl) rfl rfl (by (try simp only [List.map_toArray, List.map_cons, List.map_nil]); first | done | rfl) ?_
        with_reducible refine (rot_any (rd (schedN p t) ((t : Int) - 2)) 17 _ (by decide)).mono ?_
        rintro e w' ⟨rfl, ⟨nd, rfl⟩⟩
        refine ⟨_, rfl, ?_⟩
        have n1_ := Aside0.mk (pw_below_drewN BL.out nd)
        have n2_ := Aside0.mk (Z1.out.drewN nd)
        refine hK.out _ _ ⟨hHeld.out.drewN nd⟩ (fun hHeld => ?_)
        clear BL Z1 hK K
        have BL := n1_
        have Z1 := n2_
        clear n1_ n2_
        generalize World.drewN w4 nd = w5 at hHeld BL Z1 ⊢
        refine norm_ (a' := ?_) ?_ ?_
        rotate_left
        · show Act.put _ (some 64) _ = _
          simp only [Act.put, List.setIfInBounds_toArray, List.set_cons_zero, List.set_cons_succ, i64_w, i32_w]
          rfl
        refine one_ (i := 22) (N := some 66) #[true, true, true, true, true, true, true, true, true, true, true, true, true, true, true, true, true, true, true, true, true, true, true, false, true, true, false, false, false, false] rfl rfl (one_of HT_.out (by kernel_rfl)) (by decide) (fun K hK => ?_)
        refine goes_ Tryd.func64 (by kernel_rfl) rfl #[.int .u32 (rd (schedN p t) ((t : Int) - 2)), .int .i64 19] (by rfl) rfl rfl (by (try simp only [List.map_toArray, List.map_cons, List.map_nil]); first | done | rfl) ?_
        with_reducible refine (rot_any (rd (schedN p t) ((t : Int) - 2)) 19 _ (by decide)).mono ?_
        rintro e w' ⟨rfl, ⟨nd, rfl⟩⟩
        refine ⟨_, rfl, ?_⟩
        have n1_ := Aside0.mk (pw_below_drewN BL.out nd)
        have n2_ := Aside0.mk (Z1.out.drewN nd)
        refine hK.out _ _ ⟨hHeld.out.drewN nd⟩ (fun hHeld => ?_)
        clear BL Z1 hK K
        have BL := n1_
        have Z1 := n2_
        clear n1_ n2_
        generalize World.drewN w5 nd = w6 at hHeld BL Z1 ⊢
        refine norm_ (a' := ?_) ?_ ?_
        rotate_left
        · show Act.put _ (some 66) _ = _
          simp only [Act.put, List.setIfInBounds_toArray, List.set_cons_zero, List.set_cons_succ, i64_w, i32_w]
          rfl
        refine pure_ (i := 23) (N := some 67) (v := ?_) (a' := ?_) #[true, true, true, true, true, true, true, true, true, true, true, true, true, true, true, true, true, true, true, true, true, true, true, true, true, true, false, false, false, false] rfl rfl (any_of HT_.out (by kernel_rfl)) (fun _ _ _ h => h) (Or.inl ⟨by rfl, ?_⟩) ?_ ?_
        rotate_left
        · intro w'
          go_simp
          with_reducible rfl
        rotate_left
        · simp only [Act.put, List.setIfInBounds_toArray, List.set_cons_zero, List.set_cons_succ, i64_w, i32_w]
          rfl
        refine pure_ (i := 26) (N := some 70) (v := ?_) (a' := ?_) #[true, true, true, true, true, true, true, true, true, true, true, true, true, true, true, true, true, true, true, true, true, true, true, true, true, true, true, false, false, false] rfl rfl (any_of HT_.out (by kernel_rfl)) (fun _ _ _ h => h) (Or.inl ⟨by rfl, ?_⟩) ?_ ?_
        rotate_left
        · intro w'
          go_simp
          with_reducible rfl
        rotate_left
        · simp only [Act.put, List.setIfInBounds_toArray, List.set_cons_zero, List.set_cons_succ, i64_w, i32_w]
          rfl
        refine pure_ (i := 27) (N := some 71) (v := ?_) (a' := ?_) #[true, true, true, true, true, true, true, true, true, true, true, true, true, true, true, true, true, true, true, true, true, true, true, true, true, true, true, true, false, false] rfl rfl (any_of HT_.out (by kernel_rfl)) (fun _ _ _ h => h) (Or.inl ⟨by rfl, ?_⟩) ?_ ?_
        rotate_left
        · intro w'
          go_simp
          with_reducible rfl
        rotate_left
        · simp only [Act.put, List.setIfInBounds_toArray, List.set_cons_zero, List.set_cons_succ, i64_w, i32_w]
          rfl
        refine pure_ (i := 28) (N := some 72) (v := ?_) (a' := ?_) #[true, true, true, true, true, true, true, true, true, true, true, true, true, true, true, true, true, true, true, true, true, true, true, true, true, true, true, true, true, false] rfl rfl (any_of HT_.out (by kernel_rfl)) (fun _ _ _ h => h) (Or.inl ⟨by rfl, ?_⟩) ?_ ?_
        rotate_left
        · intro w'
          go_simp
          with_reducible rfl
        rotate_left
        · simp only [Act.put, List.setIfInBounds_toArray, List.set_cons_zero, List.set_cons_succ, i64_w, i32_w]
          rfl
        refine last_ (i := 29) (N := none) #[true, true, true, true, true, true, true, true, true, true, true, true, true, true, true, true, true, true, true, true, true, true, true, true, true, true, true, true, true, true] rfl rfl (one_of HT_.out (by kernel_rfl)) (by decide) (fun K hK => ?_)
        refine skip_ (by rfl) rfl (exec_store (ad := ⟨w.heap.size + 1, t, none⟩) (v := .int .u32 (schedV (schedN p t) t)) rfl (by rfl) (by exact congrArg (Value.int .u32) (add3 _ _ _ _)) rfl (by kernel_rfl) (hHeld.out.cellN t (by rw [schedN_length]; exact hlt'.out)) (hHeld.out.frozen _)) ?_
        have n0_ := Aside0.mk (show Blk (World.setCell _ _ _) (w.heap.size + 1) 82 .u32 (schedN p (t + 1)) from by
          have := hHeld.out.set t (schedV (schedN p t) t)
          unfold schedN
          rw [if_neg h16'.out]
          exact this)
        have n1_ := Aside0.mk (Z1.out.far (a := ⟨w.heap.size + 1, t, none⟩) (by simp) (.int .u32 (schedV (schedN p t) t)))
        have n2_ := Aside0.mk (BL.out.setCell (p := ⟨w.heap.size + 1, t, none⟩) (by simp) (.int .u32 (schedV (schedN p t) t)))
        refine hK.out _ _ ?_
        clear hK K hHeld Z1 BL
        have B1 := n0_
        have Z1 := n1_
        have L1 := n2_
        clear n0_ n1_ n2_
        generalize World.setCell w6 _ _ = wz at B1 Z1 L1 ⊢
        refine done_ (done_of HT_.out (by kernel_rfl)) ?_
        clear p16 p16' p7 p7' w16 w7 g16 g7 n16 n7 p15 p15' p2 p2'
        go_wp2
        exact ⟨⟨t + 1, by omega, by go_num, B1, Z1, L1⟩, by simp [intOf]; omega⟩
    · obtain rfl : t = 64 := by omega
      have q0 : (((64 : Nat) : Int) < 64) = False := eq_false (by omega)
      have hlen := Aside0.mk (schedN_length p 64)
      go_wp2_with (first | (refine load_blk rfl _ _ rfl rfl B1.out 64 62 (by kernel_rfl) (by kernel_rfl) hlen.out ?_) | (refine store_blk rfl _ _ _ rfl rfl (schedN p 64) rfl Z1.out 64 (by kernel_rfl) rfl hlen.out ?_; intro w3 B3 g3 z3; replace B3 := Aside0.mk B3; replace g3 := Aside0.mk g3; replace z3 := Aside0.mk z3))
      have L3 := L1.out.grown g3.out (by have := L1.out.size; omega) (by simp)
      refine bodyPost_ret (results_blk rfl _ rfl B3.out 64 62 (by kernel_rfl) (by kernel_rfl) hlen.out) rfl ⟨rfl, L3⟩
end Go.Proofs.YtgdogjnjbinoiaaDoor.Q
