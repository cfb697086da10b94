/- What the calls of these Go functions answer (contracts): chacha_Block, chacha_Stream. Each under the conditions that it states. -/
import Derived.Test.YtllaobhheokafaaC0
import Derived.Test.YtllaobhheokafaaHarr
import Derived.Test.YtllaobhheokafaaCchacha
import Derived.Test.YtllaobhheokafaaCchachab
import Derived.Test.YtllaobhheokafaaDchacha
namespace Go.Proofs.Ytllaobhheokafaa.Q
open Go.RowKit Go.Proofs.YtllaobhheokafaaW.PrintWords Go.Proofs.YtllaobhheokafaaW.PrintLast Go.Proofs.YtllaobhheokafaaW.PrintMore
attribute [local go_sem] max2_int min2_int max_two min_two max_three min_three max_four min_four   -- for this text's walks alone
set_option linter.unusedVariables false
set_option linter.unusedSimpArgs false

/-! ### chacha_Block: function 23 -/
set_option maxHeartbeats 8000000 in
set_option maxRecDepth 100000 in
theorem chacha_Block.calls (A0 : Option Addr) (c0 : Nat) (l0 : List Int) (a1 : Int) (A2 : Option Addr) (c2 : Nat) (l2 : List Int) (r1 : List Int) (r2 : Int) (w : World) (hr0 : Kd.C (Kd.int .u8) w A0 l0.length l0) (hc0 : l0.length ≤ c0) (hr2 : Kd.C (Kd.int .u8) w A2 l2.length l2) (hc2 : l2.length ≤ c2) (h : chacha_Block.f l0 a1 l2 = some (r1, r2)) :
    Calls Try.prog 23 #[.slice A0 l0.length c0, .int .u32 a1, .slice A2 l2.length c2] w fun e w' => ∃ v0_ : Value, e = .returned (.tuple #[v0_, .int .i64 r2]) ∧ Kd.R (Kd.int .u8) 5 w' w.heap.size (fun _ => True) v0_ r1 ∧ Below w.heap.size w w' := by
  have HR0 := Aside0.mk hr0
  have HC0 := Aside0.mk hc0
  clear hr0 hc0
  have HR2 := Aside0.mk hr2
  have HC2 := Aside0.mk hc2
  clear hr2 hc2
  have HB := Aside0.mk (Below.refl w.heap.size w)
  have H : ((chacha_right.f l0 l2).bind fun t116 => (if t116 = true then ((chacha_block.f l0 a1 l2).bind fun t117 => (some (t117, 0))) else (some (([] : List Int), 1)))) = some (r1, r2) := h
  clear h
  replace H := Option.bind_eq_some_iff.mp H
  obtain ⟨t116, A40, H⟩ := H
  replace H : (if t116 = true then ((chacha_block.f l0 a1 l2).bind fun t117 => (some (t117, 0))) else (some (([] : List Int), 1))) = some (r1, r2) := H
  have A4 := Aside0.mk A40
  clear A40
  by_cases c5 : t116 = true
  · subst c5
    have H1 : ((chacha_block.f l0 a1 l2).bind fun t117 => (some (t117, 0))) = some (r1, r2) := by rw [if_pos rfl] at H; exact H
    clear H
    have H := H1
    clear H1
    replace H := Option.bind_eq_some_iff.mp H
    obtain ⟨t117, A60, H⟩ := H
    replace H : (some (t117, 0)) = some (r1, r2) := H
    have A6 := Aside0.mk A60
    clear A60
    simp only [Option.some.injEq, Prod.mk.injEq] at H
    obtain ⟨rfl, rfl⟩ := H
    go_enter Try.func23, Try.ntmps23
    go_wp2_with (first | ((with_reducible refine gate_callee (f := 42) rfl ?_); refine goesL_ (some 10) rfl rfl Try.func42 (by kernel_rfl) rfl #[.slice A0 l0.length c0, .slice A2 l2.length c2] rfl (by (try simp only [List.map_toArray, List.map_cons, List.map_nil]); first | done | rfl | (simp only [List.length_drop, List.length_take]; rfl)) ?_; (with_reducible refine (chacha_right.calls _ _ l0 _ _ l2 true _ ?side1 ?side2 ?side3 ?side4 A4.out).mono ?_); (case side1 => repeat (first | exact HR0.out | (with_reducible refine Kd.C_alloc ?_ _) | (with_reducible refine Kd.C_drewN ?_ _) | (with_reducible refine Kd.C_drew ?_))); (case side2 => exact HC0.out); (case side3 => repeat (first | exact HR2.out | (with_reducible refine Kd.C_alloc ?_ _) | (with_reducible refine Kd.C_drewN ?_ _) | (with_reducible refine Kd.C_drew ?_))); (case side4 => exact HC2.out); rintro e w' ⟨rfl, ⟨nd, rfl⟩⟩; refine ⟨_, rfl, ?_⟩) | ((with_reducible refine gate_callee (f := 43) rfl ?_); refine goesL_ (some 15) rfl rfl Try.func43 (by kernel_rfl) rfl #[.slice A0 l0.length c0, .int .u32 a1, .slice A2 l2.length c2] rfl (by (try simp only [List.map_toArray, List.map_cons, List.map_nil]); first | done | rfl | (simp only [List.length_drop, List.length_take]; rfl)) ?_; (with_reducible refine (chacha_block.calls _ _ l0 a1 _ _ l2 t117 _ ?side1 ?side2 ?side3 ?side4 A6.out).mono ?_); (case side1 => repeat (first | exact HR0.out | (with_reducible refine Kd.C_alloc ?_ _) | (with_reducible refine Kd.C_drewN ?_ _) | (with_reducible refine Kd.C_drew ?_))); (case side2 => exact HC0.out); (case side3 => repeat (first | exact HR2.out | (with_reducible refine Kd.C_alloc ?_ _) | (with_reducible refine Kd.C_drewN ?_ _) | (with_reducible refine Kd.C_drew ?_))); (case side4 => exact HC2.out); rintro e w7 ⟨v118, rfl, ho0, hb⟩; refine ⟨_, rfl, ?_⟩; have n0_ := Aside0.mk (Kd.R_lower ho0 (below_size (by repeat (first | (with_reducible first | exact HB.out | apply below_alloc | apply pw_below_drewN | apply below_drew1) | exact HB.out)))); have n1_ := Aside0.mk (below_step (by repeat (first | (with_reducible first | exact HB.out | apply below_alloc | apply pw_below_drewN | apply below_drew1) | exact HB.out)) hb); clear HB; have HO119 := n0_; have HB := n1_; clear n0_ n1_; (try clear hb); (try clear hb2); (try clear hk); (try clear hi); (try clear ho0)))
    go_ret2
    exact ⟨_, by first | rfl | (simp [errW_none, errW_some] <;> rfl) | (simp [*, errW_none, errW_some] <;> rfl), by (with_reducible repeat (first | apply Kd.R_alloc | apply Kd.R_drewN | apply Kd.R_drew)); exact HO119.out, by repeat (first | (with_reducible first | exact HB.out | apply below_alloc | apply pw_below_drewN | apply below_drew1) | exact HB.out)⟩
  · replace c5 := Bool.eq_false_iff.mpr c5
    subst c5
    have H1 : (some (([] : List Int), 1)) = some (r1, r2) := by rw [if_neg (show ¬ (false = true) by decide)] at H; exact H
    clear H
    have H := H1
    clear H1
    simp only [Option.some.injEq, Prod.mk.injEq] at H
    obtain ⟨rfl, rfl⟩ := H
    go_enter Try.func23, Try.ntmps23
    go_wp2_with (first | ((with_reducible refine gate_callee (f := 42) rfl ?_); refine goesL_ (some 10) rfl rfl Try.func42 (by kernel_rfl) rfl #[.slice A0 l0.length c0, .slice A2 l2.length c2] rfl (by (try simp only [List.map_toArray, List.map_cons, List.map_nil]); first | done | rfl | (simp only [List.length_drop, List.length_take]; rfl)) ?_; (with_reducible refine (chacha_right.calls _ _ l0 _ _ l2 false _ ?side1 ?side2 ?side3 ?side4 A4.out).mono ?_); (case side1 => repeat (first | exact HR0.out | (with_reducible refine Kd.C_alloc ?_ _) | (with_reducible refine Kd.C_drewN ?_ _) | (with_reducible refine Kd.C_drew ?_))); (case side2 => exact HC0.out); (case side3 => repeat (first | exact HR2.out | (with_reducible refine Kd.C_alloc ?_ _) | (with_reducible refine Kd.C_drewN ?_ _) | (with_reducible refine Kd.C_drew ?_))); (case side4 => exact HC2.out); rintro e w' ⟨rfl, ⟨nd, rfl⟩⟩; refine ⟨_, rfl, ?_⟩))
    go_ret2
    exact ⟨_, by first | rfl | (simp [errW_none, errW_some] <;> rfl) | (simp [*, errW_none, errW_some] <;> rfl), by first | exact Kd.R_nil _ _ _ _ _ | exact Kd.N_nil _ _ _ _ _ | exact Kd.V_nil _ _ _ _ _ | exact Kd.Q_nil _ _ _ _ _ | exact Kd.S_nil _ _ _ _ _, by repeat (first | (with_reducible first | exact HB.out | apply below_alloc | apply pw_below_drewN | apply below_drew1) | exact HB.out)⟩

/-! ### chacha_Stream: function 26 -/
open Go.Proofs.Ytllaobhheokafaa.H
attribute [local go_sem] max2_int min2_int max_two min_two   -- for this text's walks alone
set_option maxHeartbeats 1000000 in
set_option maxRecDepth 100000 in
theorem stream_any (A0 : Option Addr) (c0 : Nat) (l0 : List Int) (a1 : Int) (A2 : Option Addr) (c2 : Nat) (l2 : List Int) (A3 : Option Addr) (c3 : Nat) (l3 : List Int) (w : World) (hr0 : Kd.C (Kd.int .u8) w A0 l0.length l0) (hc0 : l0.length ≤ c0) (hr2 : Kd.C (Kd.int .u8) w A2 l2.length l2) (hc2 : l2.length ≤ c2) (hr3 : Kd.C (Kd.int .u8) w A3 l3.length l3) (hc3 : l3.length ≤ c3)
    (h0 : l0.length = 32) (h2 : l2.length = 12) (hn : l3.length ≤ 140737488351232) (ha0 : 0 ≤ a1) (ha1 : a1 < 4294967296) (hlim : ((l3.length : Int) + 63) / 64 ≤ 4294967296 - a1) :
    Calls Try.prog 26 #[.slice A0 l0.length c0, .int .u32 a1, .slice A2 l2.length c2, .slice A3 l3.length c3] w fun e w' =>
      ∃ v, e = .returned (.tuple #[v, .int .i64 0]) ∧ Own w' w.heap.size 5 .u8 v (streamW l0 a1 l2 l3) ∧ Below w.heap.size w w' := by
  have HR0 := Aside0.mk hr0
  have HR2 := Aside0.mk hr2
  have HR3 := Aside0.mk hr3
  clear hr0 hr2 hr3
  have H0 := Aside0.mk h0
  have H2 := Aside0.mk h2
  have hmk := print_make (P := Try.prog) 28 5 .u8 1 Try.underlying28 info5 (by omega) l3.length (by omega)
  have hright : chacha_right.f l0 l2 = some true := by unfold chacha_right.f; rw [h0, h2]; rfl
  clear h0 h2
  replace hright := Aside0.mk hright
  have q1 : (((l3.length : Int) + 64 - 1) / 64 > 4294967295 - a1 + 1) = False := eq_false (by omega)
  go_enter Try.func26, Try.ntmps26
  go_wp2_with (go_at_call 42; with_reducible refine (chacha_right.calls _ _ l0 _ _ l2 true _ HR0.out hc0 HR2.out hc2 hright.out).mono ?_; rintro e w' ⟨rfl, ⟨nd, rfl⟩⟩)
  have B0 := Aside0.mk (show Blk ((w.drewN nd).alloc (.cells (madeCells #[.int .u8 0] l3.length) 5)) w.heap.size 5 .u8 (streamN l0 a1 l2 l3 0) from by rw [made_nums, streamN_zero]; exact Blk.new (w.drewN nd) _ _ _)
  have L0 := Aside0.mk (show Below w.heap.size w ((w.drewN nd).alloc (.cells (madeCells #[.int .u8 0] l3.length) 5)) from (pw_below_drewN (Below.refl _ _) nd).alloc (by simp) _)
  clear hmk q1
  generalize (w.drewN nd).alloc (.cells (madeCells #[.int .u8 0] l3.length) 5) = W0 at B0 L0 ⊢
  obtain ⟨i0, hi0, _, hsz0, _⟩ := info_parts info5
  go_loopw [1, 12] (fun cnt i wr => ∃ q m : Nat, m < l3.length + 64 ∧ i = .int .i64 m ∧ cnt = .int .u32 ((a1 + q) % 4294967296) ∧ Aside0 (m = 64 * q) ∧ Aside0 (Blk wr w.heap.size 5 .u8 (streamN l0 a1 l2 l3 m)) ∧ Aside0 (Below w.heap.size w wr)) (fun _ i _ => l3.length + 64 - (intOf i).toNat)
  case atStart => exact ⟨0, 0, by omega, rfl, by rw [show (a1 + ((0 : Nat) : Int)) % 4294967296 = a1 by omega], ⟨rfl⟩, B0, L0⟩
  case round =>
    clear B0 L0
    obtain ⟨q, m, hm, rfl, rfl, hmq, B1, L1⟩ := hrel
    by_cases hlt : m < l3.length
    · have q0 : ((m : Int) < (l3.length : Int)) = True := eq_true (by omega)
      obtain ⟨hi, hhi⟩ : ∃ hi : Nat, hi = min (m + 64) l3.length := ⟨_, rfl⟩
      have hmn : (if (l3.length : Int) < (m : Int) + 64 then (l3.length : Int) else (m : Int) + 64) = (hi : Int) := by split <;> omega
      have hh1 : m ≤ hi := by omega
      have hh2 : hi ≤ l3.length := by omega
      have hh3 : hi ≤ m + 64 := by omega
      have hh5 : m < hi := by omega
      have hh4 : Aside0 (hi = l3.length ∨ hi = m + 64) := ⟨by omega⟩
      clear hhi
      obtain ⟨A', hcut, hrd, hcl⟩ := print_mid_of (P := Try.prog) (Value.int .u8) 0 28 5 .i64 .i64 Try.underlying28 hi0 hsz0 A3 c3 l3 (m : Int) (hi : Int) (by omega) (by omega) (by omega) hc3
      have hsub := hrd w (Kd.reads_of_C HR3.out)
      rw [show ((l3.take (hi : Int).toNat).drop (m : Int).toNat).length = hi - m by simp; omega] at hcut
      have hsub' : ReadsOf (Value.int .u8) 0 w A' (hi - m) ((l3.take hi).drop m) := by
        have e : ((l3.take (hi : Int).toNat).drop (m : Int).toNat).length = hi - m := by simp; omega
        rw [e] at hsub
        simpa using hsub
      replace hsub' := Aside0.mk hsub'
      clear hrd hsub
      obtain ⟨ad, rfl, hsubc⟩ := hsub'.out.2.2 (by omega)
      have SC : Aside0 (∀ j : Nat, j < hi - m → w.cell? (ad.add j) = some (.int .u8 (rd l3 ((m + j : Nat) : Int)))) := ⟨fun j hj => by
        rw [hsubc j hj]
        congr 2
        simp only [rd, Int.toNat_natCast, List.getD_eq_getElem?_getD, List.getElem?_drop, List.getElem?_take]
        rw [if_pos (by omega)]⟩
      clear hsubc hsub'
      go_wp2_with fail
      refine (block_any A0 c0 l0 _ A2 c2 l2 _ (Kd.C_below HR0.out L1.out) hc0 (Kd.C_below HR2.out L1.out) hc2 H0.out H2.out).mono ?_
      rintro e w1 ⟨v, rfl, ho, hb⟩
      have hKf := ho.cells (by rw [blockW_length]; omega)
      rw [blockW_length] at hKf
      obtain ⟨g, c, rfl, hg1, hg2, hcells⟩ := hKf
      have KC := Aside0.mk hcells
      have B2 := Aside0.mk (B1.out.below hb)
      have L2 := Aside0.mk (below_then L1.out L1.out.size hb)
      have hgw : w.heap.size < g := Nat.lt_of_lt_of_le B1.out.lt hg1
      clear hcells ho hb B1 L1 hg1 hg2
      go_wp2
      obtain ⟨wo, rfl⟩ : ∃ wo : World, wo = wr := ⟨_, rfl⟩
      go_loopw [54] (fun i wr => ∃ j : Nat, j ≤ hi - m ∧ i = .int .i64 j ∧ Aside0 (Blk wr w.heap.size 5 .u8 (streamN l0 a1 l2 l3 (m + j))) ∧ Aside0 (∀ j : Nat, j < 64 → wr.cell? ⟨g, j, none⟩ = some (.int .u8 (rd (blockW l0 ((a1 + q) % 4294967296) l2) j))) ∧ Aside0 (Below w.heap.size w wr)) (fun i _ => hi - m - (intOf i).toNat)
      case atStart => exact ⟨0, by omega, rfl, B2, KC, L2⟩
      case round =>
        clear B2 KC L2
        obtain ⟨j, hj, rfl, B2, KC, L2⟩ := hrel
        by_cases hlt2 : j < hi - m
        · have q1 : ((j : Int) < ((hi - m : Nat) : Int)) = True := eq_true (by omega)
          have q2 : ((j : Int) < 64) = True := eq_true (by omega)
          have q3 : ((m : Int) + (j : Int) < (l3.length : Int)) = True := eq_true (by omega)
          have hx0 := SC.out j (by omega)
          have hx : wr.cell? (ad.add j) = some (.int .u8 (rd l3 ((m + j : Nat) : Int))) := (L2.out.cell (World.block_lt_of_cell? w _ hx0)).trans hx0
          clear hx0
          have hk := KC.out j (by omega)
          have hc : wr.cell? ⟨w.heap.size, m + j, none⟩ = _ := B2.out.cellN (m + j) (by rw [streamN_length]; omega)
          have hf := B2.out.frozen (m + j)
          have hs : streamB l0 a1 l2 l3 (m + j) = Go.bits .xor .u8 (rd l3 ((m : Int) + (j : Int))) (rd (blockW l0 ((a1 + (q : Int)) % 4294967296) l2) (j : Int)) := by
            have e := hmq.out
            unfold streamB
            rw [show (m + j) / 64 = q by omega, show (m + j) % 64 = j by omega, Int.natCast_add]
          replace hs := Aside0.mk hs
          go_wp2
          refine ⟨⟨j + 1, by omega, by go_num, ⟨?_⟩, ⟨fun j2 h2 => ?_⟩, ⟨L2.out.setCell (Nat.le_refl _) _⟩⟩, by simp [intOf]; omega⟩
          · rw [← Nat.add_assoc, ← streamN_set, hs.out]
            exact B2.out.set (m + j) _
          · rw [World.cell?_setCell_other _ _ _ _ (by intro e; injection e with e; omega)]
            exact KC.out j2 h2
        · obtain rfl : j = hi - m := by omega
          have q1 : (((hi - m : Nat) : Int) < ((hi - m : Nat) : Int)) = False := eq_false (by omega)
          have B3 : Aside0 (Blk wr w.heap.size 5 .u8 (streamN l0 a1 l2 l3 (m + 64))) := by
            refine ⟨?_⟩
            have e := B2.out
            rcases hh4.out with h4 | h4
            · rw [streamN_all _ _ _ _ (m + (hi - m)) (by omega), ← streamN_all _ _ _ _ (m + 64) (by omega)] at e
              exact e
            · rw [show m + (hi - m) = m + 64 by omega] at e
              exact e
          go_wp2
          exact ⟨⟨q + 1, m + 64, by omega, by go_num, by congr 1; omega, ⟨by have := hmq.out; omega⟩, B3, L2⟩, by simp [intOf]; omega⟩
    · have q0 : ((m : Int) < (l3.length : Int)) = False := eq_false (by omega)
      have hall := streamN_all l0 a1 l2 l3 m (by omega)
      replace hall := Aside0.mk hall
      go_wp2
      go_ret2
      exact ⟨_, rfl, by have h1 := B1.out; rw [hall.out] at h1; have h2 := Own.of_blk h1 (Nat.le_refl _) (by rw [streamN_length]; unfold maxLen; omega); rw [streamN_length] at h2; exact h2, L1.out⟩
set_option maxHeartbeats 1000000 in
theorem stream_none (A0 : Option Addr) (c0 : Nat) (l0 : List Int) (a1 : Int) (A2 : Option Addr) (c2 : Nat) (l2 : List Int) (A3 : Option Addr) (c3 : Nat) (l3 : List Int) (w : World) (hr0 : Kd.C (Kd.int .u8) w A0 l0.length l0) (hc0 : l0.length ≤ c0) (hr2 : Kd.C (Kd.int .u8) w A2 l2.length l2) (hc2 : l2.length ≤ c2)
    (h02 : ¬(l0.length = 32 ∧ l2.length = 12)) :
    Calls Try.prog 26 #[.slice A0 l0.length c0, .int .u32 a1, .slice A2 l2.length c2, .slice A3 l3.length c3] w fun e w' =>
      e = .returned (.tuple #[.slice none 0 0, .int .i64 1]) ∧ Below w.heap.size w w' := by
  have HR0 := Aside0.mk hr0
  have HR2 := Aside0.mk hr2
  clear hr0 hr2
  have hright : chacha_right.f l0 l2 = some false := by
    unfold chacha_right.f
    by_cases h0 : l0.length = 32
    · rw [if_pos (by omega)]
      have h2 : ((l2.length : Int) == 12) = false := by rw [beq_eq_false_iff_ne]; omega
      rw [h2]
    · rw [if_neg (by omega)]
  clear h02
  replace hright := Aside0.mk hright
  go_enter Try.func26, Try.ntmps26
  go_wp2_with (go_at_call 42; with_reducible refine (chacha_right.calls _ _ l0 _ _ l2 false _ HR0.out hc0 HR2.out hc2 hright.out).mono ?_; rintro e w' ⟨rfl, ⟨nd, rfl⟩⟩)
  go_ret2
  exact ⟨rfl, pw_below_drewN (Below.refl _ _) nd⟩
set_option maxHeartbeats 1000000 in
theorem stream_long (A0 : Option Addr) (c0 : Nat) (l0 : List Int) (a1 : Int) (A2 : Option Addr) (c2 : Nat) (l2 : List Int) (A3 : Option Addr) (c3 : Nat) (l3 : List Int) (w : World) (hr0 : Kd.C (Kd.int .u8) w A0 l0.length l0) (hc0 : l0.length ≤ c0) (hr2 : Kd.C (Kd.int .u8) w A2 l2.length l2) (hc2 : l2.length ≤ c2)
    (h0 : l0.length = 32) (h2 : l2.length = 12) (hn : l3.length ≤ 140737488351232) (ha0 : 0 ≤ a1) (ha1 : a1 < 4294967296) (hlim : 4294967296 - a1 < ((l3.length : Int) + 63) / 64) :
    Calls Try.prog 26 #[.slice A0 l0.length c0, .int .u32 a1, .slice A2 l2.length c2, .slice A3 l3.length c3] w fun e w' =>
      e = .returned (.tuple #[.slice none 0 0, .int .i64 4]) ∧ Below w.heap.size w w' := by
  have HR0 := Aside0.mk hr0
  have HR2 := Aside0.mk hr2
  clear hr0 hr2
  have hright : chacha_right.f l0 l2 = some true := by unfold chacha_right.f; rw [h0, h2]; rfl
  clear h0 h2
  replace hright := Aside0.mk hright
  have q1 : (((l3.length : Int) + 64 - 1) / 64 > 4294967295 - a1 + 1) = True := eq_true (by omega)
  go_enter Try.func26, Try.ntmps26
  go_wp2_with (go_at_call 42; with_reducible refine (chacha_right.calls _ _ l0 _ _ l2 true _ HR0.out hc0 HR2.out hc2 hright.out).mono ?_; rintro e w' ⟨rfl, ⟨nd, rfl⟩⟩)
  go_ret2
  exact ⟨rfl, pw_below_drewN (Below.refl _ _) nd⟩
theorem chacha_Stream.calls (k : Nat) (A0 : Option Addr) (c0 : Nat) (l0 : List Int) (a1 : Int) (A2 : Option Addr) (c2 : Nat) (l2 : List Int) (A3 : Option Addr) (c3 : Nat) (l3 : List Int) (r1 : List Int) (r2 : Int) (w : World) (hr0 : Kd.C (Kd.int .u8) w A0 l0.length l0) (hc0 : l0.length ≤ c0) (hr2 : Kd.C (Kd.int .u8) w A2 l2.length l2) (hc2 : l2.length ≤ c2) (hr3 : Kd.C (Kd.int .u8) w A3 l3.length l3) (hc3 : l3.length ≤ c3) (h : chacha_Stream.f k l0 a1 l2 l3 = some (r1, r2)) :
    Calls Try.prog 26 #[.slice A0 l0.length c0, .int .u32 a1, .slice A2 l2.length c2, .slice A3 l3.length c3] w fun e w' => ∃ v0_ : Value, e = .returned (.tuple #[v0_, .int .i64 r2]) ∧ Kd.R (Kd.int .u8) 5 w' w.heap.size (fun _ => True) v0_ r1 ∧ Below w.heap.size w w' := by
  unfold chacha_Stream.f at h
  by_cases h02 : l0.length = 32 ∧ l2.length = 12
  · rw [if_pos h02] at h
    by_cases hb : l3.length ≤ 140737488351232 ∧ 0 ≤ a1 ∧ a1 < 4294967296
    · rw [if_pos hb] at h
      by_cases hl : ((l3.length : Int) + 63) / 64 ≤ 4294967296 - a1
      · rw [if_pos hl] at h
        simp only [Option.some.injEq, Prod.mk.injEq] at h
        obtain ⟨rfl, rfl⟩ := h
        exact (stream_any A0 c0 l0 a1 A2 c2 l2 A3 c3 l3 w hr0 hc0 hr2 hc2 hr3 hc3 h02.1 h02.2 hb.1 hb.2.1 hb.2.2 hl).mono fun e w' ⟨v, h1, h2, h3⟩ => ⟨v, h1, h2.toR, h3⟩
      · rw [if_neg hl] at h
        simp only [Option.some.injEq, Prod.mk.injEq] at h
        obtain ⟨rfl, rfl⟩ := h
        exact (stream_long A0 c0 l0 a1 A2 c2 l2 A3 c3 l3 w hr0 hc0 hr2 hc2 h02.1 h02.2 hb.1 hb.2.1 hb.2.2 (by omega)).mono fun e w' ⟨h1, h3⟩ => ⟨_, h1, Kd.R_nil _ _ _ _ _, h3⟩
    · rw [if_neg hb] at h
      cases h
  · rw [if_neg h02] at h
    simp only [Option.some.injEq, Prod.mk.injEq] at h
    obtain ⟨rfl, rfl⟩ := h
    exact (stream_none A0 c0 l0 a1 A2 c2 l2 A3 c3 l3 w hr0 hc0 hr2 hc2 h02).mono fun e w' ⟨h1, h3⟩ => ⟨_, h1, Kd.R_nil _ _ _ _ _, h3⟩

end Go.Proofs.Ytllaobhheokafaa.Q
