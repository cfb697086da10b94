/- What the calls of these Go functions answer (contracts): casketref15_rot, casketref15_Quarter, casketref15_turn, casketref01_Same. Each under the conditions that it states. -/
import Derived.Test.YtllaobhheokafaaC0
import Derived.Test.YtllaobhheokafaaDchacha
import Derived.Test.YtllaobhheokafaaDref15
namespace Go.Proofs.Ytllaobhheokafaa.Q
open Go.RowKit Go.Proofs.YtllaobhheokafaaW.PrintWords Go.Proofs.YtllaobhheokafaaW.PrintLast Go.Proofs.YtllaobhheokafaaW.PrintMore
attribute [local go_sem] max2_int min2_int max_two min_two max_three min_three max_four min_four   -- for this text's walks alone
set_option linter.unusedVariables false
set_option linter.unusedSimpArgs false

/-! ### casketref15_rot: function 41 -/
set_option maxHeartbeats 8000000 in
set_option maxRecDepth 100000 in
theorem casketref15_rot.calls (a0 : Int) (a1 : Int) (r : Int) (w : World) (h : casketref15_rot.f a0 a1 = some r) :
    Calls Try.prog 41 #[.int .u32 a0, .int .u64 a1] w fun e w' => e = .returned (.int .u32 r) ∧ Drawn0 w w' := by
  have H : (if 0 ≤ a1 then (if 0 ≤ (IntKind.u64.wrap (32 - a1)) then (some (Go.bits .or .u32 (shl .u32 a0 a1) (shr .u32 a0 (IntKind.u64.wrap (32 - a1))))) else (none)) else (none)) = some r := h
  clear h
  by_cases c3 : 0 ≤ a1
  · rw [if_pos c3] at H
    have c3b0 := eq_true c3
    have c3b1 : decide (0 ≤ a1) = true := decide_eq_true c3
    clear c3
    obtain ⟨ji4, hji4⟩ : ∃ j_ : Int, (shl .u32 a0 a1) = j_ := ⟨_, rfl⟩
    replace H : (if 0 ≤ (IntKind.u64.wrap (32 - a1)) then (some (Go.bits .or .u32 (ji4) (shr .u32 a0 (IntKind.u64.wrap (32 - a1))))) else (none)) = some r := by first | (rw [hji4] at H; exact H) | (simp only [hji4] at H ⊢; exact H)
    have hji4_ : (IntKind.u32.wrap (a0 * 2 ^ min a1.toNat 32)) = ji4 := hji4
    have hji4z : a1 ≤ 32 → (IntKind.u32.wrap (a0 * 2 ^ a1.toNat)) = ji4 := shl_small hji4
    obtain ⟨ji5, hji5⟩ : ∃ j_ : Int, (IntKind.u64.wrap (32 - a1)) = j_ := ⟨_, rfl⟩
    replace H : (if 0 ≤ (ji5) then (some (Go.bits .or .u32 (ji4) (shr .u32 a0 (ji5)))) else (none)) = some r := by first | (rw [hji5] at H; exact H) | (simp only [hji5] at H ⊢; exact H)
    by_cases c6 : 0 ≤ (ji5)
    · rw [if_pos c6] at H
      have c6b0 := eq_true c6
      have c6b1 : decide (0 ≤ (ji5)) = true := decide_eq_true c6
      clear c6
      obtain ⟨ji7, hji7⟩ : ∃ j_ : Int, (shr .u32 a0 (ji5)) = j_ := ⟨_, rfl⟩
      replace H : (some (Go.bits .or .u32 (ji4) (ji7))) = some r := by first | (rw [hji7] at H; exact H) | (simp only [hji7] at H ⊢; exact H)
      have hji7_ : (a0 / 2 ^ min (ji5).toNat 32) = ji7 := hji7
      have hji7z : (ji5) ≤ 32 → (a0 / 2 ^ (ji5).toNat) = ji7 := shr_small hji7
      obtain rfl := Option.some.inj H
      go_enter Try.func41, Try.ntmps41
      go_wp2
      go_ret
      exact ⟨by first | rfl | (simp; done) | (simp only [← hji4, ← hji5, ← hji7] <;> (first | rfl | simp)) | (simp [*]; done), by repeat (first | exact Drawn0.refl _ | apply Drawn0.step)⟩
    · rw [if_neg c6] at H
      exact absurd H (by simp)
  · rw [if_neg c3] at H
    exact absurd H (by simp)

/-! ### casketref15_Quarter: function 22 -/
theorem refrot_any (x n : Int) (w : World) (h : n = 16 ∨ n = 12 ∨ n = 8 ∨ n = 7) :
    Calls Try.prog 41 #[.int .u32 x, .int .u64 n] w fun e w' => e = .returned (.int .u32 (rotl x n)) ∧ Drawn0 w w' :=
  casketref15_rot.calls x n _ w (refrot_n x n h)
theorem refquarter_any (a b c d : Int) (w : World) :
    Calls Try.prog 22 #[.int .u32 a, .int .u32 b, .int .u32 c, .int .u32 d] w fun e w' => e = .returned (.tuple #[.int .u32 (qrA a b c d), .int .u32 (qrB a b c d), .int .u32 (qrC a b c d), .int .u32 (qrD a b c d)]) ∧ Drawn0 w w' := by
  go_enter Try.func22, Try.ntmps22
  go_wp2_with (go_at_call 41; refine (refrot_any _ _ _ (by decide)).mono ?_; rintro e w' ⟨rfl, ⟨nd, rfl⟩⟩)
  refine bodyPost_ret (results_list (rs := [.tmp 8, .tmp 9, .tmp 10, .tmp 11]) rfl (by simp) (.tmp (.tmp (.tmp (.tmp .nil))))) rfl ?_
  exact ⟨rfl, by repeat (first | exact Drawn0.refl _ | apply Drawn0.step)⟩
theorem casketref15_Quarter.calls (a0 : Int) (a1 : Int) (a2 : Int) (a3 : Int) (r1 : Int) (r2 : Int) (r3 : Int) (r4 : Int) (w : World) (h : casketref15_Quarter.f a0 a1 a2 a3 = some (r1, r2, r3, r4)) :
    Calls Try.prog 22 #[.int .u32 a0, .int .u32 a1, .int .u32 a2, .int .u32 a3] w fun e w' => e = .returned (.tuple #[.int .u32 r1, .int .u32 r2, .int .u32 r3, .int .u32 r4]) ∧ Drawn0 w w' := by
  rw [refquarter_f] at h
  simp only [Option.some.injEq, Prod.mk.injEq] at h
  obtain ⟨rfl, rfl, rfl, rfl⟩ := h
  exact refquarter_any a0 a1 a2 a3 w

/-! ### casketref15_turn: function 45 -/
set_option maxHeartbeats 1000000 in
theorem refturn_any (P0_ : Nat → Prop) (v : Value) (l0 : List Int) (a1 : Int) (a2 : Int) (a3 : Int) (a4 : Int) (w0 w : World) (hB : Below w0.heap.size w0 w) (ho0 : Kd.R (Kd.int .u32) 22 w w0.heap.size P0_ v l0)
    (i0 : 0 ≤ a1) (i1 : a1 < (l0.length : Int)) (j0 : 0 ≤ a2) (j1 : a2 < (l0.length : Int)) (k0 : 0 ≤ a3) (k1 : a3 < (l0.length : Int)) (m0 : 0 ≤ a4) (m1 : a4 < (l0.length : Int)) :
    Calls Try.prog 45 #[v, .int .i64 a1, .int .i64 a2, .int .i64 a3, .int .i64 a4] w fun e w' => e = .returned (.tuple #[]) ∧ Kd.R (Kd.int .u32) 22 w' w0.heap.size P0_ v
      ((((l0.set a1.toNat (qrA (rd l0 a1) (rd l0 a2) (rd l0 a3) (rd l0 a4))).set a2.toNat (qrB (rd l0 a1) (rd l0 a2) (rd l0 a3) (rd l0 a4))).set a3.toNat (qrC (rd l0 a1) (rd l0 a2) (rd l0 a3) (rd l0 a4))).set a4.toNat (qrD (rd l0 a1) (rd l0 a2) (rd l0 a3) (rd l0 a4)))
      ∧ Below w0.heap.size w0 w' ∧ Kept w w' (fun k_ => P0_ k_) := by
  have HB := Aside0.mk hB
  obtain ⟨g, cap, rfl, hb1, hb2, cells, hG⟩ := Kd.R_form ho0 (by omega)
  have HO := Aside0.mk ho0
  have HP := Aside0.mk (show P0_ g from ho0.1 _ rfl)
  have HI := Aside0.mk (And.intro i0 i1)
  have HJ := Aside0.mk (And.intro j0 j1)
  have HK := Aside0.mk (And.intro k0 k1)
  have HM := Aside0.mk (And.intro m0 m1)
  have c1 := (Kd.R_cell (enc := Value.int .u32) (h1 := fun _ => rfl) (0 : Int) ho0 a1 i0 i1).1
  have c2 := (Kd.R_cell (enc := Value.int .u32) (h1 := fun _ => rfl) (0 : Int) ho0 a2 j0 j1).1
  have c3 := (Kd.R_cell (enc := Value.int .u32) (h1 := fun _ => rfl) (0 : Int) ho0 a3 k0 k1).1
  have c4 := (Kd.R_cell (enc := Value.int .u32) (h1 := fun _ => rfl) (0 : Int) ho0 a4 m0 m1).1
  change w.cell? _ = some (.int .u32 (rd l0 a1)) at c1
  change w.cell? _ = some (.int .u32 (rd l0 a2)) at c2
  change w.cell? _ = some (.int .u32 (rd l0 a3)) at c3
  change w.cell? _ = some (.int .u32 (rd l0 a4)) at c4
  replace i0 := eq_true i0
  replace i1 := eq_true i1
  replace j0 := eq_true j0
  replace j1 := eq_true j1
  replace k0 := eq_true k0
  replace k1 := eq_true k1
  replace m0 := eq_true m0
  replace m1 := eq_true m1
  clear hB ho0 hG
  go_enter Try.func45, Try.ntmps45
  go_wp2
  go_quiet ((go_at_call 22; with_reducible refine (refquarter_any _ _ _ _ _).mono ?_; rintro e w' ⟨rfl, ⟨nd, rfl⟩⟩; first | exact ⟨rfl, _, World.drewN_drewN _ _ _⟩ | exact ⟨rfl, _, Eq.trans (World.drewN_drewN _ _ _) (congrArg (World.drewN _) (Nat.add_assoc _ _ _))⟩))
  clear c1 c2 c3 c4
  generalize hw1 : World.drewN w _ = w1
  have R0 : Kd.R (Kd.int .u32) 22 w1 w0.heap.size P0_ _ l0 := hw1 ▸ Kd.R_drewN HO.out _
  have B1 := Aside0.mk (show Below w0.heap.size w0 w1 from hw1 ▸ pw_below_drewN HB.out _)
  have E1 := Aside0.mk (show Kept w w1 (fun k_ => P0_ k_) from hw1 ▸ (Kept.refl w _).drewN _)
  clear hw1
  obtain ⟨d1, f1⟩ := Kd.R_cell (enc := Value.int .u32) (h1 := fun _ => rfl) (0 : Int) R0 a1 HI.out.1 HI.out.2
  have R1 : Kd.R (Kd.int .u32) 22 _ w0.heap.size P0_ _ _ := (Kd.R_put (enc := Value.int .u32) (h1 := fun _ => rfl) R0 a1 (qrA (rd l0 a1) (rd l0 a2) (rd l0 a3) (rd l0 a4))).1
  obtain ⟨d2, f2⟩ := Kd.R_celln (enc := Value.int .u32) (h1 := fun _ => rfl) (0 : Int) R1 a2 HJ.out.1 HJ.out.2
  have R2 : Kd.R (Kd.int .u32) 22 _ w0.heap.size P0_ _ _ := (Kd.R_put (enc := Value.int .u32) (h1 := fun _ => rfl) (by rw [List.length_set]; exact R1) a2 (qrB (rd l0 a1) (rd l0 a2) (rd l0 a3) (rd l0 a4))).1
  obtain ⟨d3, f3⟩ := Kd.R_celln (enc := Value.int .u32) (h1 := fun _ => rfl) (0 : Int) R2 a3 HK.out.1 (by simpa using HK.out.2)
  have R3 : Kd.R (Kd.int .u32) 22 _ w0.heap.size P0_ _ _ := (Kd.R_put (enc := Value.int .u32) (h1 := fun _ => rfl) (by rw [List.length_set]; exact R2) a3 (qrC (rd l0 a1) (rd l0 a2) (rd l0 a3) (rd l0 a4))).1
  obtain ⟨d4, f4⟩ := Kd.R_celln (enc := Value.int .u32) (h1 := fun _ => rfl) (0 : Int) R3 a4 HM.out.1 (by simpa using HM.out.2)
  have R4 : Kd.R (Kd.int .u32) 22 _ w0.heap.size P0_ _ _ := (Kd.R_put (enc := Value.int .u32) (h1 := fun _ => rfl) (by rw [List.length_set]; exact R3) a4 (qrD (rd l0 a1) (rd l0 a2) (rd l0 a3) (rd l0 a4))).1
  replace R4 := Aside0.mk R4
  clear R0 R1 R2 R3
  go_wp2
  go_end0
  refine ⟨rfl, by simpa using R4.out, (((B1.out.setCell (by exact hb1) _).setCell (by exact hb1) _).setCell (by exact hb1) _).setCell (by exact hb1) _, ?_⟩
  exact (((E1.out.setCell (.inl HP.out) _).setCell (.inl HP.out) _).setCell (.inl HP.out) _).setCell (.inl HP.out) _
theorem casketref15_turn.calls (P0_ : Nat → Prop) (u9000_ : Value) (l0 : List Int) (a1 : Int) (a2 : Int) (a3 : Int) (a4 : Int) (r : List Int) (w0 w : World) (hB : Below w0.heap.size w0 w) (ho0 : Kd.R (Kd.int .u32) 22 w w0.heap.size P0_ u9000_ l0) (h : casketref15_turn.f l0 a1 a2 a3 a4 = some r) :
    Calls Try.prog 45 #[u9000_, .int .i64 a1, .int .i64 a2, .int .i64 a3, .int .i64 a4] w fun e w' => e = .returned (.tuple #[]) ∧ Kd.R (Kd.int .u32) 22 w' w0.heap.size (fun k_ => (P0_ k_ ∨ w.heap.size ≤ k_)) u9000_ r ∧ Below w0.heap.size w0 w' ∧ Kept w w' (fun k_ => P0_ k_) := by
  by_cases i0 : 0 ≤ a1
  · by_cases i1 : a1 < (l0.length : Int)
    · by_cases j0 : 0 ≤ a2
      · by_cases j1 : a2 < (l0.length : Int)
        · by_cases k0 : 0 ≤ a3
          · by_cases k1 : a3 < (l0.length : Int)
            · by_cases m0 : 0 ≤ a4
              · by_cases m1 : a4 < (l0.length : Int)
                · rw [refturn_f l0 a1 a2 a3 a4 i0 i1 j0 j1 k0 k1 m0 m1] at h
                  obtain rfl := Option.some.inj h
                  exact (refturn_any P0_ u9000_ l0 a1 a2 a3 a4 w0 w hB ho0 i0 i1 j0 j1 k0 k1 m0 m1).mono fun e w' ⟨h1, h2, h3, h4⟩ => ⟨h1, Kd.R_mono h2 (fun _ hk => .inl hk), h3, h4⟩
                · unfold casketref15_turn.f at h; rw [if_pos i0, if_pos i1, if_pos j0, if_pos j1, if_pos k0, if_pos k1, if_pos m0, if_neg m1] at h; cases h
              · unfold casketref15_turn.f at h; rw [if_pos i0, if_pos i1, if_pos j0, if_pos j1, if_pos k0, if_pos k1, if_neg m0] at h; cases h
            · unfold casketref15_turn.f at h; rw [if_pos i0, if_pos i1, if_pos j0, if_pos j1, if_pos k0, if_neg k1] at h; cases h
          · unfold casketref15_turn.f at h; rw [if_pos i0, if_pos i1, if_pos j0, if_pos j1, if_neg k0] at h; cases h
        · unfold casketref15_turn.f at h; rw [if_pos i0, if_pos i1, if_pos j0, if_neg j1] at h; cases h
      · unfold casketref15_turn.f at h; rw [if_pos i0, if_pos i1, if_neg j0] at h; cases h
    · unfold casketref15_turn.f at h; rw [if_pos i0, if_neg i1] at h; cases h
  · unfold casketref15_turn.f at h; rw [if_neg i0] at h; cases h

/-! ### casketref01_Same: function 46 -/
set_option maxHeartbeats 8000000 in
set_option maxRecDepth 100000 in
theorem casketref01_Same.calls (k : Nat) (A0 : Option Addr) (c0 : Nat) (l0 : List Int) (A1 : Option Addr) (c1 : Nat) (l1 : List Int) (r : Bool) (w : World) (hr0 : Kd.C (Kd.int .u8) w A0 l0.length l0) (hc0 : l0.length ≤ c0) (hr1 : Kd.C (Kd.int .u8) w A1 l1.length l1) (hc1 : l1.length ≤ c1) (h : casketref01_Same.f k l0 l1 = some r) :
    Calls Try.prog 46 #[.slice A0 l0.length c0, .slice A1 l1.length c1] w fun e w' => e = .returned (.bool r) ∧ Drawn0 w w' := by
  have HR0 := Aside0.mk hr0
  have HC0 := Aside0.mk hc0
  clear hr0 hc0
  have HR1 := Aside0.mk hr1
  have HC1 := Aside0.mk hc1
  clear hr1 hc1
  have H : (if (l0.length : Int) = (l1.length : Int) then (casketref01_Same.l0 k l0 l1 0) else (some false)) = some r := h
  clear h
  by_cases c3 : (l0.length : Int) = (l1.length : Int)
  · rw [if_pos c3] at H
    have c3b0 : ((l0.length : Int) == (l1.length : Int)) = true := beq_iff_eq.mpr c3
    have c3b1 : ((l0.length : Int) != (l1.length : Int)) = false := bne_eq_false_iff_eq.mpr c3
    have c3b2 : (l0.length == l1.length) = true := by first | simpa using c3 | (simp at c3 ⊢; omega)
    clear c3
    have H' := Aside0.mk H
    clear H
    go_enter Try.func46, Try.ntmps46
    go_wp2
    repeat (go_quiet (fail); try go_wp2)
    go_loopg [5] k (fun kq v5 w' => ∃ (x5_1 : Int), v5 = .int .i64 x5_1 ∧ Aside0 (casketref01_Same.l0 kq l0 l1 x5_1 = some r) ∧ Aside0 (kq ≤ k) ∧ Drawn0 w w')
    case atStart => exact ⟨(0), (by first | rfl | (simp; done) | (simp [*]; done)), H', ⟨Nat.le_refl _⟩, by repeat (first | exact Drawn0.refl _ | apply Drawn0.step)⟩
    case round =>
      clear H'
      try clear c1
      try clear p2
      try clear c3
      try clear c3b0
      try clear c3b1
      try clear c3b2
      obtain ⟨x5_1, rfl, HA, HK1, ⟨m1, rfl⟩⟩ := hrel
      cases gk with
      | zero => exact absurd HA.out (by simp [casketref01_Same.l0])
      | succ k1 =>
        have H := HA.out
        clear HA
        simp only [casketref01_Same.l0] at H
        by_cases c4 : x5_1 < (l0.length : Int)
        · rw [if_pos c4] at H
          have c4b0 : decide (x5_1 < (l0.length : Int)) = true := decide_eq_true c4
          clear c4
          by_cases c5 : 0 ≤ x5_1
          · rw [if_pos c5] at H
            have c5b0 : decide (0 ≤ x5_1) = true := decide_eq_true c5
            clear c5
            by_cases c6 : x5_1 < (l1.length : Int)
            · rw [if_pos c6] at H
              have c6b0 : decide (x5_1 < (l1.length : Int)) = true := decide_eq_true c6
              clear c6
              by_cases c7 : (rd l0 x5_1) = (rd l1 x5_1)
              · rw [if_pos c7] at H
                have c7b0 : ((rd l0 x5_1) == (rd l1 x5_1)) = true := beq_iff_eq.mpr c7
                have c7b1 : ((rd l0 x5_1) != (rd l1 x5_1)) = false := bne_eq_false_iff_eq.mpr c7
                clear c7
                have H' := Aside0.mk H
                clear H
                have p179 : 0 ≤ (x5_1 : Int) := of_decide_eq_true (by first | (with_reducible assumption) | assumption)
                have q179 : x5_1 < (l0.length : Int) := of_decide_eq_true (by first | (with_reducible assumption) | assumption)
                obtain ⟨ad179, e179, hx179_0⟩ := Kd.at_int HR0.out x5_1 p179 q179
                cases e179
                replace p179 := eq_true p179
                replace q179 := eq_true q179
                have p180 : 0 ≤ (x5_1 : Int) := of_decide_eq_true (by first | (with_reducible assumption) | assumption)
                have q180 : x5_1 < (l1.length : Int) := of_decide_eq_true (by first | (with_reducible assumption) | assumption)
                obtain ⟨ad180, e180, hx180_0⟩ := Kd.at_int HR1.out x5_1 p180 q180
                cases e180
                replace p180 := eq_true p180
                replace q180 := eq_true q180
                go_wp2
                repeat (go_quiet (fail); try go_wp2)
                go_roundg k1
                case measure => have := HK1.out; omega
                case rel => exact ⟨(wrap64 (x5_1 + 1)), (by first | rfl | (simp; done) | (simp [*]; done)), H', ⟨by have := HK1.out; omega⟩, by repeat (first | exact Drawn0.refl _ | apply Drawn0.step)⟩
              · rw [if_neg c7] at H
                have c7b0 : ((rd l0 x5_1) == (rd l1 x5_1)) = false := beq_eq_false_iff_ne.mpr c7
                have c7b1 : ((rd l0 x5_1) != (rd l1 x5_1)) = true := bne_iff_ne.mpr c7
                obtain rfl := Option.some.inj H
                have p179 : 0 ≤ (x5_1 : Int) := of_decide_eq_true (by first | (with_reducible assumption) | assumption)
                have q179 : x5_1 < (l0.length : Int) := of_decide_eq_true (by first | (with_reducible assumption) | assumption)
                obtain ⟨ad179, e179, hx179_0⟩ := Kd.at_int HR0.out x5_1 p179 q179
                cases e179
                replace p179 := eq_true p179
                replace q179 := eq_true q179
                have p180 : 0 ≤ (x5_1 : Int) := of_decide_eq_true (by first | (with_reducible assumption) | assumption)
                have q180 : x5_1 < (l1.length : Int) := of_decide_eq_true (by first | (with_reducible assumption) | assumption)
                obtain ⟨ad180, e180, hx180_0⟩ := Kd.at_int HR1.out x5_1 p180 q180
                cases e180
                replace p180 := eq_true p180
                replace q180 := eq_true q180
                go_wp2
                repeat (go_quiet (fail); try go_wp2)
                go_ret
                exact ⟨by first | rfl | (simp; done) | (simp [*]; done), by repeat (first | exact Drawn0.refl _ | apply Drawn0.step)⟩
            · rw [if_neg c6] at H
              exact absurd H (by simp)
          · rw [if_neg c5] at H
            exact absurd H (by simp)
        · rw [if_neg c4] at H
          have c4b0 : decide (x5_1 < (l0.length : Int)) = false := decide_eq_false c4
          clear c4
          obtain rfl := Option.some.inj H
          go_wp2
          repeat (go_quiet (fail); try go_wp2)
          go_ret
          exact ⟨by first | rfl | (simp; done) | (simp [*]; done), by repeat (first | exact Drawn0.refl _ | apply Drawn0.step)⟩
  · rw [if_neg c3] at H
    have c3b0 : ((l0.length : Int) == (l1.length : Int)) = false := beq_eq_false_iff_ne.mpr c3
    have c3b1 : ((l0.length : Int) != (l1.length : Int)) = true := bne_iff_ne.mpr c3
    have c3b2 : (l0.length == l1.length) = false := by first | simpa using c3 | (simp at c3 ⊢; omega)
    obtain rfl := Option.some.inj H
    go_enter Try.func46, Try.ntmps46
    go_wp2
    repeat (go_quiet (fail); try go_wp2)
    go_ret
    exact ⟨by first | rfl | (simp; done) | (simp [*]; done), by repeat (first | exact Drawn0.refl _ | apply Drawn0.step)⟩

end Go.Proofs.Ytllaobhheokafaa.Q
