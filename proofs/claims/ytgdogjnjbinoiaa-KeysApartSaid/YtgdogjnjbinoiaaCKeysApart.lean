/- What the calls of these Go functions answer (contracts): casketlaw18_KeysApart. Each under the conditions that it states. -/
import Derived.Test.YtgdogjnjbinoiaaC0
import Derived.Test.YtgdogjnjbinoiaaHmark
import Derived.Test.YtgdogjnjbinoiaaChmac
import Derived.Test.YtgdogjnjbinoiaaCkeys
import Derived.Test.YtgdogjnjbinoiaaCkeysw
import Derived.Test.YtgdogjnjbinoiaaCref01
import Derived.Test.YtgdogjnjbinoiaaDKeysApart
import Derived.Test.YtgdogjnjbinoiaaDhmac
import Derived.Test.YtgdogjnjbinoiaaDkeys
import Derived.Test.YtgdogjnjbinoiaaDref13
namespace Go.Proofs.Ytgdogjnjbinoiaa.Q
open Go.RowKit Go.Proofs.YtgdogjnjbinoiaaW.PrintWords Go.Proofs.YtgdogjnjbinoiaaW.PrintLast Go.Proofs.YtgdogjnjbinoiaaW.PrintMore
attribute [local go_sem] max2_int min2_int max_two min_two max_three min_three max_four min_four   -- for this text's walks alone
set_option linter.unusedVariables false
set_option linter.unusedSimpArgs false

/-! ### casketlaw18_KeysApart: function 16 -/
open Go.Proofs.Ytgdogjnjbinoiaa.H
set_option maxHeartbeats 8000000 in
set_option maxRecDepth 100000 in
theorem casketlaw18_KeysApart.calls (k : Nat) (A0 : Option Addr) (c0 : Nat) (l0 : List Int) (a1 : Int) (a2 : ByteArray) (a3 : Int) (a4 : ByteArray) (r : Bool) (w : World) (hr0 : Kd.C (Kd.int .u8) w A0 l0.length l0) (hc0 : l0.length ≤ c0) (h : casketlaw18_KeysApart.f k l0 a1 a2 a3 a4 = some r) :
    Calls Try.prog 16 #[.slice A0 l0.length c0, .int .u8 a1, .string a2, .int .u8 a3, .string a4] w fun e w' => e = .returned (.bool r) ∧ Below w.heap.size w w' := by
  have HR0 := Aside0.mk hr0
  have HC0 := Aside0.mk hc0
  clear hr0 hc0
  have HB := Aside0.mk (Below.refl w.heap.size w)
  have H : ((casketlaw18_awake.f k).bind fun t695 => (if (l0.length : Int) = 32 then (if (a2.size : Int) > 64 then (casketlaw18_KeysApart.j0 k l0 a1 a2 a3 a4 t695 true) else (casketlaw18_KeysApart.j0 k l0 a1 a2 a3 a4 t695 (decide ((a4.size : Int) > 64)))) else (casketlaw18_KeysApart.j0 k l0 a1 a2 a3 a4 t695 true))) = some r := h
  clear h
  replace H := Option.bind_eq_some_iff.mp H
  obtain ⟨t695, A60, H⟩ := H
  replace H : (if (l0.length : Int) = 32 then (if (a2.size : Int) > 64 then (casketlaw18_KeysApart.j0 k l0 a1 a2 a3 a4 t695 true) else (casketlaw18_KeysApart.j0 k l0 a1 a2 a3 a4 t695 (decide ((a4.size : Int) > 64)))) else (casketlaw18_KeysApart.j0 k l0 a1 a2 a3 a4 t695 true)) = some r := H
  have A6 := Aside0.mk A60
  clear A60
  have HC7 := Aside0.mk H
  clear H
  go_enter Try.func16, Try.ntmps16
  go_upto_region 2 with (first | ((with_reducible refine gate_callee (f := 36) rfl ?_); refine goesL_ (some 18) rfl rfl Try.func36 (by kernel_rfl) rfl #[] rfl (by (try simp only [List.map_toArray, List.map_cons, List.map_nil]); first | done | rfl | (simp only [List.length_drop, List.length_take]; rfl)) ?_; (with_reducible refine (casketlaw18_awake.calls k  t695 _ A6.out).mono ?_); rintro e w8 ⟨rfl, hb⟩; refine ⟨_, rfl, ?_⟩; have n0_ := Aside0.mk (below_step (by repeat (first | (with_reducible first | exact HB.out | apply below_alloc | apply pw_below_drewN | apply below_drew1) | exact HB.out)) hb); clear HB; have HB := n0_; clear n0_; (try clear hb); (try clear hb2); (try clear hk); (try clear hi)))
  (try simp only [Act.put, List.setIfInBounds_toArray, List.set_cons_zero, List.set_cons_succ])
  go_cut [31] (fun v31 wc => ∃ (kq : Nat) (x31_6 : Bool), v31 = .bool x31_6 ∧ Aside0 (casketlaw18_KeysApart.j0 kq l0 a1 a2 a3 a4 t695 x31_6 = some r) ∧ Aside0 (kq ≤ k) ∧ Aside0 (Below w.heap.size w wc))
  case first =>
    have H := HC7.out
    clear HC7
    by_cases c9 : (l0.length : Int) = 32
    · rw [if_pos c9] at H
      have c9b0 : ((l0.length : Int) == 32) = true := beq_iff_eq.mpr c9
      have c9b1 : ((l0.length : Int) != 32) = false := bne_eq_false_iff_eq.mpr c9
      clear c9
      (first | rw [c9b0] | (simp only [i64_w, i32_w]; rw [c9b0]) | skip)
      by_cases c10 : (a2.size : Int) > 64
      · rw [if_pos c10] at H
        have c10b0 : decide (64 < (a2.size : Int)) = true := decide_eq_true c10
        have c10b1 : decide (64 < a2.size) = true := decide_eq_true (by omega)
        clear c10
        have H' := Aside0.mk H
        clear H
        go_wp2
        go_meet
        case rel => exact ⟨_, (true), (by first | rfl | (simp; done) | (simp [*]; done)), H', ⟨by first | omega | exact Nat.le_refl _⟩, ⟨by repeat (first | (with_reducible first | exact HB.out | apply below_alloc | apply pw_below_drewN | apply below_drew1) | exact HB.out)⟩⟩
      · rw [if_neg c10] at H
        have c10b0 : decide (64 < (a2.size : Int)) = false := decide_eq_false c10
        have c10b1 : decide (64 < a2.size) = false := decide_eq_false (by omega)
        clear c10
        have H' := Aside0.mk H
        clear H
        go_wp2
        go_meet
        case rel => exact ⟨_, (decide ((a4.size : Int) > 64)), (by first | rfl | (simp; done) | (simp [*]; done)), H', ⟨by first | omega | exact Nat.le_refl _⟩, ⟨by repeat (first | (with_reducible first | exact HB.out | apply below_alloc | apply pw_below_drewN | apply below_drew1) | exact HB.out)⟩⟩
    · rw [if_neg c9] at H
      have c9b0 : ((l0.length : Int) == 32) = false := beq_eq_false_iff_ne.mpr c9
      have c9b1 : ((l0.length : Int) != 32) = true := bne_iff_ne.mpr c9
      (first | rw [c9b0] | (simp only [i64_w, i32_w]; rw [c9b0]) | skip)
      have H' := Aside0.mk H
      clear H
      go_wp2
      go_meet
      case rel => exact ⟨_, (true), (by first | rfl | (simp; done) | (simp [*]; done)), H', ⟨by first | omega | exact Nat.le_refl _⟩, ⟨by repeat (first | (with_reducible first | exact HB.out | apply below_alloc | apply pw_below_drewN | apply below_drew1) | exact HB.out)⟩⟩
  case rest =>
    clear HC7
    try clear c1
    try clear p2
    try clear c3
    try clear c9
    try clear c9b0
    try clear c9b1
    try clear c10
    try clear c10b0
    try clear c10b1
    obtain ⟨kq, x31_6, rfl, HA, HJ6, HB⟩ := hcut
    cases kq with
    | zero => exact absurd HA.out (by simp [casketlaw18_KeysApart.j0])
    | succ kj6 =>
      have H := HA.out
      clear HA
      simp only [casketlaw18_KeysApart.j0] at H
      by_cases c11 : x31_6 = true
      · subst c11
        have H1 : (some t695) = some r := by rw [if_pos rfl] at H; exact H
        clear H
        have H := H1
        clear H1
        obtain rfl := Option.some.inj H
        go_wp2
        go_ret
        exact ⟨by first | rfl | (simp [errW_none, errW_some] <;> rfl) | (simp [*, errW_none, errW_some] <;> rfl), by repeat (first | (with_reducible first | exact HB.out | apply below_alloc | apply pw_below_drewN | apply below_drew1) | exact HB.out)⟩
      · replace c11 := Bool.eq_false_iff.mpr c11
        subst c11
        have H1 : ((keys_Derive.f l0 a1 a2).bind fun bt696 => ((keys_Derive.f l0 a3 a4).bind fun bt700 => (if bt696.2 = 0 then (casketlaw18_KeysApart.j1 kj6 l0 a1 a2 a3 a4 t695 bt696.1 bt700.1 (bt700.2 != 0)) else (casketlaw18_KeysApart.j1 kj6 l0 a1 a2 a3 a4 t695 bt696.1 bt700.1 true)))) = some r := by rw [if_neg (show ¬ (false = true) by decide)] at H; exact H
        clear H
        have H := H1
        clear H1
        replace H := Option.bind_eq_some_iff.mp H
        obtain ⟨⟨t696, t697⟩, A120, H⟩ := H
        replace H : ((keys_Derive.f l0 a3 a4).bind fun bt700 => (if t697 = 0 then (casketlaw18_KeysApart.j1 kj6 l0 a1 a2 a3 a4 t695 t696 bt700.1 (bt700.2 != 0)) else (casketlaw18_KeysApart.j1 kj6 l0 a1 a2 a3 a4 t695 t696 bt700.1 true))) = some r := H
        have A12 := Aside0.mk A120
        clear A120
        replace H := Option.bind_eq_some_iff.mp H
        obtain ⟨⟨t700, t701⟩, A130, H⟩ := H
        replace H : (if t697 = 0 then (casketlaw18_KeysApart.j1 kj6 l0 a1 a2 a3 a4 t695 t696 t700 (t701 != 0)) else (casketlaw18_KeysApart.j1 kj6 l0 a1 a2 a3 a4 t695 t696 t700 true)) = some r := H
        have A13 := Aside0.mk A130
        clear A130
        have HC14 := Aside0.mk H
        clear H
        go_upto_region 6 with (first | ((with_reducible refine gate_callee (f := 37) rfl ?_); refine goesL_ (some 37) rfl rfl Try.func37 (by kernel_rfl) rfl #[.slice A0 l0.length c0, .int .u8 a1, .string a2] rfl (by (try simp only [List.map_toArray, List.map_cons, List.map_nil]); first | done | rfl | (simp only [List.length_drop, List.length_take]; rfl)) ?_; (with_reducible refine (keys_Derive.calls _ _ l0 a1 a2 t696 t697 _ ?side1 ?side2 A12.out).mono ?_); (case side1 => repeat (first | exact (Kd.C_below HR0.out HB.out) | (with_reducible refine Kd.C_alloc ?_ _) | (with_reducible refine Kd.C_drewN ?_ _) | (with_reducible refine Kd.C_drew ?_))); (case side2 => exact HC0.out); rintro e w15 ⟨v698, rfl, ho0, hb⟩; refine ⟨_, rfl, ?_⟩; have n0_ := Aside0.mk (Kd.R_lower ho0 (below_size (by repeat (first | (with_reducible first | exact HB.out | apply below_alloc | apply pw_below_drewN | apply below_drew1) | exact HB.out)))); have n1_ := Aside0.mk (below_step (by repeat (first | (with_reducible first | exact HB.out | apply below_alloc | apply pw_below_drewN | apply below_drew1) | exact HB.out)) hb); clear HB; have HO699 := n0_; have HB := n1_; clear n0_ n1_; (try clear hb); (try clear hb2); (try clear hk); (try clear hi); (try clear ho0)) | ((with_reducible refine gate_callee (f := 37) rfl ?_); refine goesL_ (some 44) rfl rfl Try.func37 (by kernel_rfl) rfl #[.slice A0 l0.length c0, .int .u8 a3, .string a4] rfl (by (try simp only [List.map_toArray, List.map_cons, List.map_nil]); first | done | rfl | (simp only [List.length_drop, List.length_take]; rfl)) ?_; (with_reducible refine (keys_Derive.calls _ _ l0 a3 a4 t700 t701 _ ?side1 ?side2 A13.out).mono ?_); (case side1 => repeat (first | exact (Kd.C_below HR0.out HB.out) | (with_reducible refine Kd.C_alloc ?_ _) | (with_reducible refine Kd.C_drewN ?_ _) | (with_reducible refine Kd.C_drew ?_))); (case side2 => exact HC0.out); rintro e w16 ⟨v702, rfl, ho0, hb⟩; refine ⟨_, rfl, ?_⟩; have n0_ := Aside0.mk (Kd.R_elder' (by (with_reducible repeat (first | apply Kd.R_alloc | apply Kd.R_drewN | apply Kd.R_drew)); exact HO699.out) (Kd.R_base ho0) hb); have n1_ := Aside0.mk (Kd.R_lower (Kd.R_new' ho0 (Kd.R_lt (by (with_reducible repeat (first | apply Kd.R_alloc | apply Kd.R_drewN | apply Kd.R_drew)); exact HO699.out))) (below_size (by repeat (first | (with_reducible first | exact HB.out | apply below_alloc | apply pw_below_drewN | apply below_drew1) | exact HB.out)))); have n2_ := Aside0.mk (below_step (by repeat (first | (with_reducible first | exact HB.out | apply below_alloc | apply pw_below_drewN | apply below_drew1) | exact HB.out)) hb); clear HO699; clear HB; have HO699 := n0_; have HO703 := n1_; have HB := n2_; clear n0_ n1_ n2_; (try clear hb); (try clear hb2); (try clear hk); (try clear hi); (try clear ho0)))
        (try simp only [Act.put, List.setIfInBounds_toArray, List.set_cons_zero, List.set_cons_succ])
        go_cut [52] (fun v52 wc => ∃ (kq : Nat) (x52_13 : Bool), v52 = .bool x52_13 ∧ Aside0 (casketlaw18_KeysApart.j1 kq l0 a1 a2 a3 a4 t695 t696 t700 x52_13 = some r) ∧ Aside0 (kq ≤ kj6) ∧ Aside0 (Kd.R (Kd.int .u8) 5 wc w.heap.size (fun k_ => some k_ ≠ (v702 : Value).ownBlock) v698 t696) ∧ Aside0 (Kd.R (Kd.int .u8) 5 wc w.heap.size (fun k_ => some k_ ≠ (v698 : Value).ownBlock) v702 t700) ∧ Aside0 (Below w.heap.size w wc))
        case first =>
          have H := HC14.out
          clear HC14
          by_cases c17 : t697 = 0
          · rw [if_pos c17] at H
            have c17b0 : (t697 == 0) = true := beq_iff_eq.mpr c17
            have c17b1 : (t697 != 0) = false := bne_eq_false_iff_eq.mpr c17
            clear c17
            (first | rw [c17b0] | (simp only [i64_w, i32_w]; rw [c17b0]) | skip)
            have H' := Aside0.mk H
            clear H
            go_wp2
            go_meet
            case rel => exact ⟨_, ((t701 != 0)), (by first | rfl | (simp; done) | (simp [*]; done)), H', ⟨by have := HJ6.out; first | omega | exact Nat.le_refl _⟩, ⟨by (with_reducible repeat (first | apply Kd.R_alloc | apply Kd.R_drewN | apply Kd.R_drew)); exact Kd.R_mono HO699.out (fun _ hk => hk.2)⟩, ⟨by (with_reducible repeat (first | apply Kd.R_alloc | apply Kd.R_drewN | apply Kd.R_drew)); exact Kd.R_mono HO703.out (fun _ hk => hk.2)⟩, ⟨by repeat (first | (with_reducible first | exact HB.out | apply below_alloc | apply pw_below_drewN | apply below_drew1) | exact HB.out)⟩⟩
          · rw [if_neg c17] at H
            have c17b0 : (t697 == 0) = false := beq_eq_false_iff_ne.mpr c17
            have c17b1 : (t697 != 0) = true := bne_iff_ne.mpr c17
            (first | rw [c17b0] | (simp only [i64_w, i32_w]; rw [c17b0]) | skip)
            have H' := Aside0.mk H
            clear H
            go_wp2
            go_meet
            case rel => exact ⟨_, (true), (by first | rfl | (simp; done) | (simp [*]; done)), H', ⟨by have := HJ6.out; first | omega | exact Nat.le_refl _⟩, ⟨by (with_reducible repeat (first | apply Kd.R_alloc | apply Kd.R_drewN | apply Kd.R_drew)); exact Kd.R_mono HO699.out (fun _ hk => hk.2)⟩, ⟨by (with_reducible repeat (first | apply Kd.R_alloc | apply Kd.R_drewN | apply Kd.R_drew)); exact Kd.R_mono HO703.out (fun _ hk => hk.2)⟩, ⟨by repeat (first | (with_reducible first | exact HB.out | apply below_alloc | apply pw_below_drewN | apply below_drew1) | exact HB.out)⟩⟩
        case rest =>
          clear HC14
          try clear c1
          try clear p2
          try clear c3
          try clear c9
          try clear c9b0
          try clear c9b1
          try clear c10
          try clear c10b0
          try clear c10b1
          try clear c11
          try clear c16
          try clear c17
          try clear c17b0
          try clear c17b1
          try clear p2
          obtain ⟨kq, x52_13, rfl, HA, HJ13, HO_12, HO_14, HB⟩ := hcut
          cases kq with
          | zero => exact absurd HA.out (by simp [casketlaw18_KeysApart.j1])
          | succ kj13 =>
            have H := HA.out
            clear HA
            simp only [casketlaw18_KeysApart.j1] at H
            by_cases c18 : x52_13 = true
            · subst c18
              have H1 : (some false) = some r := by rw [if_pos rfl] at H; exact H
              clear H
              have H := H1
              clear H1
              obtain rfl := Option.some.inj H
              go_wp2
              go_ret
              exact ⟨by first | rfl | (simp [errW_none, errW_some] <;> rfl) | (simp [*, errW_none, errW_some] <;> rfl), by repeat (first | (with_reducible first | exact HB.out | apply below_alloc | apply pw_below_drewN | apply below_drew1) | exact HB.out)⟩
            · replace c18 := Bool.eq_false_iff.mpr c18
              subst c18
              have H1 : ((some (([a1, ((a2.size : Int)) % 256] : List Int) : List Int)).bind fun y704 => ((some (([] : List Int) : List Int)).bind fun y707 => (if y707.length + a2.size < 140737488355328 then ((some (y707 ++ bytesOf a2 : List Int)).bind fun y710 => (if y710.length < 140737488355328 then ((some (y710 ++ [1] : List Int)).bind fun y713 => (if y704.length + y713.length < 140737488355328 then ((some (y704 ++ y713 : List Int)).bind fun y716 => ((some (([a3, ((a4.size : Int)) % 256] : List Int) : List Int)).bind fun y719 => ((some (([] : List Int) : List Int)).bind fun y722 => (if y722.length + a4.size < 140737488355328 then ((some (y722 ++ bytesOf a4 : List Int)).bind fun y725 => (if y725.length < 140737488355328 then ((some (y725 ++ [1] : List Int)).bind fun y728 => (if y719.length + y728.length < 140737488355328 then ((some (y719 ++ y728 : List Int)).bind fun y731 => ((casketlaw18_same.f kj13 y716 y731).bind fun t734 => (if a1 = a3 then (casketlaw18_KeysApart.j2 kj13 l0 t695 t696 t700 y716 y731 (t734 != (a2.toList == a4.toList))) else (casketlaw18_KeysApart.j2 kj13 l0 t695 t696 t700 y716 y731 (t734 != false))))) else (none))) else (none))) else (none))))) else (none))) else (none))) else (none)))) = some r := by rw [if_neg (show ¬ (false = true) by decide)] at H; exact H
              clear H
              have H := H1
              clear H1
              obtain ⟨y704, hy704⟩ : ∃ y_ : List Int, y_ = (([a1, ((a2.size : Int)) % 256] : List Int)) := ⟨_, rfl⟩
              replace H : ((some (([] : List Int) : List Int)).bind fun y707 => (if y707.length + a2.size < 140737488355328 then ((some (y707 ++ bytesOf a2 : List Int)).bind fun y710 => (if y710.length < 140737488355328 then ((some (y710 ++ [1] : List Int)).bind fun y713 => (if y704.length + y713.length < 140737488355328 then ((some (y704 ++ y713 : List Int)).bind fun y716 => ((some (([a3, ((a4.size : Int)) % 256] : List Int) : List Int)).bind fun y719 => ((some (([] : List Int) : List Int)).bind fun y722 => (if y722.length + a4.size < 140737488355328 then ((some (y722 ++ bytesOf a4 : List Int)).bind fun y725 => (if y725.length < 140737488355328 then ((some (y725 ++ [1] : List Int)).bind fun y728 => (if y719.length + y728.length < 140737488355328 then ((some (y719 ++ y728 : List Int)).bind fun y731 => ((casketlaw18_same.f kj13 y716 y731).bind fun t734 => (if a1 = a3 then (casketlaw18_KeysApart.j2 kj13 l0 t695 t696 t700 y716 y731 (t734 != (a2.toList == a4.toList))) else (casketlaw18_KeysApart.j2 kj13 l0 t695 t696 t700 y716 y731 (t734 != false))))) else (none))) else (none))) else (none))))) else (none))) else (none))) else (none))) = some r := by first | (rw [hy704]; with_reducible exact H) | (have H2_ := (Option.bind_some _ _).symm.trans H; rw [hy704]; with_reducible exact H2_) | (have H2_ := (Option.bind_some _ _).symm.trans H; with_reducible exact H2_) | with_reducible exact H | (rw [hy704]; exact H) | exact H
              have Ny704 := Aside0.mk hy704
              clear hy704
              obtain ⟨y707, hy707⟩ : ∃ y_ : List Int, y_ = (([] : List Int)) := ⟨_, rfl⟩
              replace H : (if y707.length + a2.size < 140737488355328 then ((some (y707 ++ bytesOf a2 : List Int)).bind fun y710 => (if y710.length < 140737488355328 then ((some (y710 ++ [1] : List Int)).bind fun y713 => (if y704.length + y713.length < 140737488355328 then ((some (y704 ++ y713 : List Int)).bind fun y716 => ((some (([a3, ((a4.size : Int)) % 256] : List Int) : List Int)).bind fun y719 => ((some (([] : List Int) : List Int)).bind fun y722 => (if y722.length + a4.size < 140737488355328 then ((some (y722 ++ bytesOf a4 : List Int)).bind fun y725 => (if y725.length < 140737488355328 then ((some (y725 ++ [1] : List Int)).bind fun y728 => (if y719.length + y728.length < 140737488355328 then ((some (y719 ++ y728 : List Int)).bind fun y731 => ((casketlaw18_same.f kj13 y716 y731).bind fun t734 => (if a1 = a3 then (casketlaw18_KeysApart.j2 kj13 l0 t695 t696 t700 y716 y731 (t734 != (a2.toList == a4.toList))) else (casketlaw18_KeysApart.j2 kj13 l0 t695 t696 t700 y716 y731 (t734 != false))))) else (none))) else (none))) else (none))))) else (none))) else (none))) else (none)) = some r := by first | (rw [hy707]; with_reducible exact H) | (have H2_ := (Option.bind_some _ _).symm.trans H; rw [hy707]; with_reducible exact H2_) | (have H2_ := (Option.bind_some _ _).symm.trans H; with_reducible exact H2_) | with_reducible exact H | (rw [hy707]; exact H) | exact H
              have Ny707 := Aside0.mk hy707
              clear hy707
              by_cases c19 : y707.length + a2.size < 140737488355328
              · rw [if_pos c19] at H
                have LMc19 := Aside0.mk c19
                clear c19
                obtain ⟨y710, hy710⟩ : ∃ y_ : List Int, y_ = (y707 ++ bytesOf a2) := ⟨_, rfl⟩
                replace H : (if y710.length < 140737488355328 then ((some (y710 ++ [1] : List Int)).bind fun y713 => (if y704.length + y713.length < 140737488355328 then ((some (y704 ++ y713 : List Int)).bind fun y716 => ((some (([a3, ((a4.size : Int)) % 256] : List Int) : List Int)).bind fun y719 => ((some (([] : List Int) : List Int)).bind fun y722 => (if y722.length + a4.size < 140737488355328 then ((some (y722 ++ bytesOf a4 : List Int)).bind fun y725 => (if y725.length < 140737488355328 then ((some (y725 ++ [1] : List Int)).bind fun y728 => (if y719.length + y728.length < 140737488355328 then ((some (y719 ++ y728 : List Int)).bind fun y731 => ((casketlaw18_same.f kj13 y716 y731).bind fun t734 => (if a1 = a3 then (casketlaw18_KeysApart.j2 kj13 l0 t695 t696 t700 y716 y731 (t734 != (a2.toList == a4.toList))) else (casketlaw18_KeysApart.j2 kj13 l0 t695 t696 t700 y716 y731 (t734 != false))))) else (none))) else (none))) else (none))))) else (none))) else (none)) = some r := by first | (rw [hy710]; with_reducible exact H) | (have H2_ := (Option.bind_some _ _).symm.trans H; rw [hy710]; with_reducible exact H2_) | (have H2_ := (Option.bind_some _ _).symm.trans H; with_reducible exact H2_) | with_reducible exact H | (rw [hy710]; exact H) | exact H
                have Ny710 := Aside0.mk hy710
                clear hy710
                by_cases c20 : y710.length < 140737488355328
                · rw [if_pos c20] at H
                  have LMc20 := Aside0.mk c20
                  clear c20
                  obtain ⟨y713, hy713⟩ : ∃ y_ : List Int, y_ = (y710 ++ [1]) := ⟨_, rfl⟩
                  replace H : (if y704.length + y713.length < 140737488355328 then ((some (y704 ++ y713 : List Int)).bind fun y716 => ((some (([a3, ((a4.size : Int)) % 256] : List Int) : List Int)).bind fun y719 => ((some (([] : List Int) : List Int)).bind fun y722 => (if y722.length + a4.size < 140737488355328 then ((some (y722 ++ bytesOf a4 : List Int)).bind fun y725 => (if y725.length < 140737488355328 then ((some (y725 ++ [1] : List Int)).bind fun y728 => (if y719.length + y728.length < 140737488355328 then ((some (y719 ++ y728 : List Int)).bind fun y731 => ((casketlaw18_same.f kj13 y716 y731).bind fun t734 => (if a1 = a3 then (casketlaw18_KeysApart.j2 kj13 l0 t695 t696 t700 y716 y731 (t734 != (a2.toList == a4.toList))) else (casketlaw18_KeysApart.j2 kj13 l0 t695 t696 t700 y716 y731 (t734 != false))))) else (none))) else (none))) else (none))))) else (none)) = some r := by first | (rw [hy713]; with_reducible exact H) | (have H2_ := (Option.bind_some _ _).symm.trans H; rw [hy713]; with_reducible exact H2_) | (have H2_ := (Option.bind_some _ _).symm.trans H; with_reducible exact H2_) | with_reducible exact H | (rw [hy713]; exact H) | exact H
                  have Ny713 := Aside0.mk hy713
                  clear hy713
                  by_cases c21 : y704.length + y713.length < 140737488355328
                  · rw [if_pos c21] at H
                    have LMc21 := Aside0.mk c21
                    clear c21
                    obtain ⟨y716, hy716⟩ : ∃ y_ : List Int, y_ = (y704 ++ y713) := ⟨_, rfl⟩
                    replace H : ((some (([a3, ((a4.size : Int)) % 256] : List Int) : List Int)).bind fun y719 => ((some (([] : List Int) : List Int)).bind fun y722 => (if y722.length + a4.size < 140737488355328 then ((some (y722 ++ bytesOf a4 : List Int)).bind fun y725 => (if y725.length < 140737488355328 then ((some (y725 ++ [1] : List Int)).bind fun y728 => (if y719.length + y728.length < 140737488355328 then ((some (y719 ++ y728 : List Int)).bind fun y731 => ((casketlaw18_same.f kj13 y716 y731).bind fun t734 => (if a1 = a3 then (casketlaw18_KeysApart.j2 kj13 l0 t695 t696 t700 y716 y731 (t734 != (a2.toList == a4.toList))) else (casketlaw18_KeysApart.j2 kj13 l0 t695 t696 t700 y716 y731 (t734 != false))))) else (none))) else (none))) else (none)))) = some r := by first | (rw [hy716]; with_reducible exact H) | (have H2_ := (Option.bind_some _ _).symm.trans H; rw [hy716]; with_reducible exact H2_) | (have H2_ := (Option.bind_some _ _).symm.trans H; with_reducible exact H2_) | with_reducible exact H | (rw [hy716]; exact H) | exact H
                    have Ny716 := Aside0.mk hy716
                    clear hy716
                    obtain ⟨y719, hy719⟩ : ∃ y_ : List Int, y_ = (([a3, ((a4.size : Int)) % 256] : List Int)) := ⟨_, rfl⟩
                    replace H : ((some (([] : List Int) : List Int)).bind fun y722 => (if y722.length + a4.size < 140737488355328 then ((some (y722 ++ bytesOf a4 : List Int)).bind fun y725 => (if y725.length < 140737488355328 then ((some (y725 ++ [1] : List Int)).bind fun y728 => (if y719.length + y728.length < 140737488355328 then ((some (y719 ++ y728 : List Int)).bind fun y731 => ((casketlaw18_same.f kj13 y716 y731).bind fun t734 => (if a1 = a3 then (casketlaw18_KeysApart.j2 kj13 l0 t695 t696 t700 y716 y731 (t734 != (a2.toList == a4.toList))) else (casketlaw18_KeysApart.j2 kj13 l0 t695 t696 t700 y716 y731 (t734 != false))))) else (none))) else (none))) else (none))) = some r := by first | (rw [hy719]; with_reducible exact H) | (have H2_ := (Option.bind_some _ _).symm.trans H; rw [hy719]; with_reducible exact H2_) | (have H2_ := (Option.bind_some _ _).symm.trans H; with_reducible exact H2_) | with_reducible exact H | (rw [hy719]; exact H) | exact H
                    have Ny719 := Aside0.mk hy719
                    clear hy719
                    obtain ⟨y722, hy722⟩ : ∃ y_ : List Int, y_ = (([] : List Int)) := ⟨_, rfl⟩
                    replace H : (if y722.length + a4.size < 140737488355328 then ((some (y722 ++ bytesOf a4 : List Int)).bind fun y725 => (if y725.length < 140737488355328 then ((some (y725 ++ [1] : List Int)).bind fun y728 => (if y719.length + y728.length < 140737488355328 then ((some (y719 ++ y728 : List Int)).bind fun y731 => ((casketlaw18_same.f kj13 y716 y731).bind fun t734 => (if a1 = a3 then (casketlaw18_KeysApart.j2 kj13 l0 t695 t696 t700 y716 y731 (t734 != (a2.toList == a4.toList))) else (casketlaw18_KeysApart.j2 kj13 l0 t695 t696 t700 y716 y731 (t734 != false))))) else (none))) else (none))) else (none)) = some r := by first | (rw [hy722]; with_reducible exact H) | (have H2_ := (Option.bind_some _ _).symm.trans H; rw [hy722]; with_reducible exact H2_) | (have H2_ := (Option.bind_some _ _).symm.trans H; with_reducible exact H2_) | with_reducible exact H | (rw [hy722]; exact H) | exact H
                    have Ny722 := Aside0.mk hy722
                    clear hy722
                    by_cases c22 : y722.length + a4.size < 140737488355328
                    · rw [if_pos c22] at H
                      have LMc22 := Aside0.mk c22
                      clear c22
                      obtain ⟨y725, hy725⟩ : ∃ y_ : List Int, y_ = (y722 ++ bytesOf a4) := ⟨_, rfl⟩
                      replace H : (if y725.length < 140737488355328 then ((some (y725 ++ [1] : List Int)).bind fun y728 => (if y719.length + y728.length < 140737488355328 then ((some (y719 ++ y728 : List Int)).bind fun y731 => ((casketlaw18_same.f kj13 y716 y731).bind fun t734 => (if a1 = a3 then (casketlaw18_KeysApart.j2 kj13 l0 t695 t696 t700 y716 y731 (t734 != (a2.toList == a4.toList))) else (casketlaw18_KeysApart.j2 kj13 l0 t695 t696 t700 y716 y731 (t734 != false))))) else (none))) else (none)) = some r := by first | (rw [hy725]; with_reducible exact H) | (have H2_ := (Option.bind_some _ _).symm.trans H; rw [hy725]; with_reducible exact H2_) | (have H2_ := (Option.bind_some _ _).symm.trans H; with_reducible exact H2_) | with_reducible exact H | (rw [hy725]; exact H) | exact H
                      have Ny725 := Aside0.mk hy725
                      clear hy725
                      by_cases c23 : y725.length < 140737488355328
                      · rw [if_pos c23] at H
                        have LMc23 := Aside0.mk c23
                        clear c23
                        obtain ⟨y728, hy728⟩ : ∃ y_ : List Int, y_ = (y725 ++ [1]) := ⟨_, rfl⟩
                        replace H : (if y719.length + y728.length < 140737488355328 then ((some (y719 ++ y728 : List Int)).bind fun y731 => ((casketlaw18_same.f kj13 y716 y731).bind fun t734 => (if a1 = a3 then (casketlaw18_KeysApart.j2 kj13 l0 t695 t696 t700 y716 y731 (t734 != (a2.toList == a4.toList))) else (casketlaw18_KeysApart.j2 kj13 l0 t695 t696 t700 y716 y731 (t734 != false))))) else (none)) = some r := by first | (rw [hy728]; with_reducible exact H) | (have H2_ := (Option.bind_some _ _).symm.trans H; rw [hy728]; with_reducible exact H2_) | (have H2_ := (Option.bind_some _ _).symm.trans H; with_reducible exact H2_) | with_reducible exact H | (rw [hy728]; exact H) | exact H
                        have Ny728 := Aside0.mk hy728
                        clear hy728
                        by_cases c24 : y719.length + y728.length < 140737488355328
                        · rw [if_pos c24] at H
                          have LMc24 := Aside0.mk c24
                          clear c24
                          obtain ⟨y731, hy731⟩ : ∃ y_ : List Int, y_ = (y719 ++ y728) := ⟨_, rfl⟩
                          replace H : ((casketlaw18_same.f kj13 y716 y731).bind fun t734 => (if a1 = a3 then (casketlaw18_KeysApart.j2 kj13 l0 t695 t696 t700 y716 y731 (t734 != (a2.toList == a4.toList))) else (casketlaw18_KeysApart.j2 kj13 l0 t695 t696 t700 y716 y731 (t734 != false)))) = some r := by first | (rw [hy731]; with_reducible exact H) | (have H2_ := (Option.bind_some _ _).symm.trans H; rw [hy731]; with_reducible exact H2_) | (have H2_ := (Option.bind_some _ _).symm.trans H; with_reducible exact H2_) | with_reducible exact H | (rw [hy731]; exact H) | exact H
                          have Ny731 := Aside0.mk hy731
                          clear hy731
                          have HC25 := Aside0.mk H
                          clear H
                          go_upto_region 10 with (first | ((with_reducible refine gate_dst (N := 57) rfl ?_); (try (refine gate_guard (by rfl) ?_; dsimp only)); refine Kd.R_lit (Kd.int .u8) _ 5 ?hg (N := 57) ?hd (xs := ([a1, ((a2.size : Int)) % 256] : List Int)) (inner := [.int .u8 a1, .int .u8 (((a2.size : Int)) % 256)]) (ok := fun _ => True) (okp := fun _ => True) ?hr ?hp (fun _ hk => hk) trivial (Below.refl _ _) (Nat.le_refl _) (by simp) ?_; (case hd => rfl); (case hg => rfl); (case hr => first | (go_simp; done) | (go_simp; rfl)); (case hp => exact (Reps.one (show Kd.M (Kd.int .u8) _ _ _ a1 [.int .u8 a1] from rfl) (Reps.one (show Kd.M (Kd.int .u8) _ _ _ (((a2.size : Int)) % 256) [.int .u8 (((a2.size : Int)) % 256)] from rfl) (Reps.none _ _)))); intro v705 w26 ho27 hb hg_ hnew_; clear hg_ hnew_; (first | rw [← Ny704.out] at ho27 | (simp only [Int.reduceToNat] at ho27; rw [← Ny704.out] at ho27)); have HL1 := Aside0.mk (Own.ofR ho27); have HM1 := Aside0.mk hb; clear hb ho27) | ((with_reducible refine gate_dst (N := 59) rfl ?_); refine conv_bytes rfl _ 9 22 5 rfl Try.underlying9 Try.underlying22 Try.underlying5 a2 rfl (by have := LMc19.out; omega) ?_; intro cap57 w57c hM hb; have HM2 := Aside0.mk hM; have HB1 := Aside0.mk hb; clear hM hb) | ((with_reducible refine gate_builtin (b := .append) (xs := #[.tmp 59, .tmp 60]) rfl ?_); (try (refine gate_guard (by rfl) ?_; dsimp only)); at_builtin; refine mark_append (e := 5) (l := bytesOf a2) rfl _ _ 22 rfl Try.underlying22 info5 rfl (by repeat (first | exact HM2.out | apply Mk.alloc)) _ _ 1 rfl (cell_at0 _ _ _) (by repeat (first | exact HB1.out | apply below_alloc)) (Nat.le_refl _) (by have h_ := LMc20.out; rw [Ny710.out, Ny707.out, List.nil_append, bytesOf_length] at h_; omega) ?_; intro A57 d57 w57a hC hd hb; have e_ : bytesOf a2 ++ [1] = y713 := (by rw [Ny713.out, Ny710.out, Ny707.out, List.nil_append]); rw [e_] at hC; have HN2 := Aside0.mk (show a2.size + 1 = y713.length by rw [← e_, List.length_append, bytesOf_length]; rfl); have HC2 := Aside0.mk hC; have HL2 := Aside0.mk (own_below HL1.out hb); have HB2 := Aside0.mk (below_step HM1.out hb); clear hC hd hb e_ HL1 HM1 HM2 HB1) | ((with_reducible refine gate_builtin (b := .append) (xs := #[.tmp 57, .tmp 61]) rfl ?_); (try (refine gate_guard (by rfl) ?_; dsimp only)); at_builtin; refine app_any (k := .u8) (l := y704) (e := 5) rfl _ _ 22 rfl Try.underlying22 1 info5 _ y713 rfl HL2.out rfl HC2.out (by decide) (by have := LMc21.out; have := HN2.out; omega) (HB2.out.size) ?_; intro v717 w32 h1 h2 h3; have ho := h1.toR; rw [← Ny716.out] at ho; have hb := HB2.out.grown h2 HB2.out.size (own_base HL2.out.out); clear h1 h2 h3; have n0_ := Aside0.mk (Kd.R_elder' (by (with_reducible repeat (first | apply Kd.R_alloc | apply Kd.R_drewN | apply Kd.R_drew)); exact HO_12.out) (Kd.R_base ho) hb); have n1_ := Aside0.mk (Kd.R_elder' (by (with_reducible repeat (first | apply Kd.R_alloc | apply Kd.R_drewN | apply Kd.R_drew)); exact HO_14.out) (Kd.R_base ho) hb); have n2_ := Aside0.mk (Kd.R_lower (Kd.R_new' (Kd.R_new' ho (Kd.R_lt (by (with_reducible repeat (first | apply Kd.R_alloc | apply Kd.R_drewN | apply Kd.R_drew)); exact HO_12.out))) (Kd.R_lt (by (with_reducible repeat (first | apply Kd.R_alloc | apply Kd.R_drewN | apply Kd.R_drew)); exact HO_14.out))) (below_size (by repeat (first | (with_reducible first | exact HB.out | apply below_alloc | apply pw_below_drewN | apply below_drew1) | exact HB.out)))); have n3_ := Aside0.mk (below_step (by repeat (first | (with_reducible first | exact HB.out | apply below_alloc | apply pw_below_drewN | apply below_drew1) | exact HB.out)) hb); clear HO_12; clear HO_14; clear HB; have HO_12 := n0_; have HO_14 := n1_; have HO718 := n2_; have HB := n3_; clear n0_ n1_ n2_ n3_; clear hb ho HL2 HB2 HC2 HN2) | ((with_reducible refine gate_dst (N := 67) rfl ?_); (try (refine gate_guard (by rfl) ?_; dsimp only)); refine Kd.R_lit (Kd.int .u8) _ 5 ?hg (N := 67) ?hd (xs := ([a3, ((a4.size : Int)) % 256] : List Int)) (inner := [.int .u8 a3, .int .u8 (((a4.size : Int)) % 256)]) (ok := fun _ => True) (okp := fun _ => True) ?hr ?hp (fun _ hk => hk) trivial (Below.refl _ _) (Nat.le_refl _) (by simp) ?_; (case hd => rfl); (case hg => rfl); (case hr => first | (go_simp; done) | (go_simp; rfl)); (case hp => exact (Reps.one (show Kd.M (Kd.int .u8) _ _ _ a3 [.int .u8 a3] from rfl) (Reps.one (show Kd.M (Kd.int .u8) _ _ _ (((a4.size : Int)) % 256) [.int .u8 (((a4.size : Int)) % 256)] from rfl) (Reps.none _ _)))); intro v720 w34 ho35 hb hg_ hnew_; clear hg_ hnew_; (first | rw [← Ny719.out] at ho35 | (simp only [Int.reduceToNat] at ho35; rw [← Ny719.out] at ho35)); have HL1 := Aside0.mk (Own.ofR ho35); have HM1 := Aside0.mk hb; clear hb ho35) | ((with_reducible refine gate_dst (N := 69) rfl ?_); refine conv_bytes rfl _ 9 22 5 rfl Try.underlying9 Try.underlying22 Try.underlying5 a4 rfl (by have := LMc22.out; omega) ?_; intro cap67 w67c hM hb; have HM2 := Aside0.mk hM; have HB1 := Aside0.mk hb; clear hM hb) | ((with_reducible refine gate_builtin (b := .append) (xs := #[.tmp 69, .tmp 70]) rfl ?_); (try (refine gate_guard (by rfl) ?_; dsimp only)); at_builtin; refine mark_append (e := 5) (l := bytesOf a4) rfl _ _ 22 rfl Try.underlying22 info5 rfl (by repeat (first | exact HM2.out | apply Mk.alloc)) _ _ 1 rfl (cell_at0 _ _ _) (by repeat (first | exact HB1.out | apply below_alloc)) (Nat.le_refl _) (by have h_ := LMc23.out; rw [Ny725.out, Ny722.out, List.nil_append, bytesOf_length] at h_; omega) ?_; intro A67 d67 w67a hC hd hb; have e_ : bytesOf a4 ++ [1] = y728 := (by rw [Ny728.out, Ny725.out, Ny722.out, List.nil_append]); rw [e_] at hC; have HN2 := Aside0.mk (show a4.size + 1 = y728.length by rw [← e_, List.length_append, bytesOf_length]; rfl); have HC2 := Aside0.mk hC; have HL2 := Aside0.mk (own_below HL1.out hb); have HB2 := Aside0.mk (below_step HM1.out hb); clear hC hd hb e_ HL1 HM1 HM2 HB1) | ((with_reducible refine gate_builtin (b := .append) (xs := #[.tmp 67, .tmp 71]) rfl ?_); (try (refine gate_guard (by rfl) ?_; dsimp only)); at_builtin; refine app_any (k := .u8) (l := y719) (e := 5) rfl _ _ 22 rfl Try.underlying22 1 info5 _ y728 rfl HL2.out rfl HC2.out (by decide) (by have := LMc24.out; have := HN2.out; omega) (HB2.out.size) ?_; intro v732 w40 h1 h2 h3; have ho := h1.toR; rw [← Ny731.out] at ho; have hb := HB2.out.grown h2 HB2.out.size (own_base HL2.out.out); clear h1 h2 h3; have n0_ := Aside0.mk (Kd.R_elder' (by (with_reducible repeat (first | apply Kd.R_alloc | apply Kd.R_drewN | apply Kd.R_drew)); exact HO_12.out) (Kd.R_base ho) hb); have n1_ := Aside0.mk (Kd.R_elder' (by (with_reducible repeat (first | apply Kd.R_alloc | apply Kd.R_drewN | apply Kd.R_drew)); exact HO_14.out) (Kd.R_base ho) hb); have n2_ := Aside0.mk (Kd.R_elder' (by (with_reducible repeat (first | apply Kd.R_alloc | apply Kd.R_drewN | apply Kd.R_drew)); exact HO718.out) (Kd.R_base ho) hb); have n3_ := Aside0.mk (Kd.R_lower (Kd.R_new' (Kd.R_new' (Kd.R_new' ho (Kd.R_lt (by (with_reducible repeat (first | apply Kd.R_alloc | apply Kd.R_drewN | apply Kd.R_drew)); exact HO_12.out))) (Kd.R_lt (by (with_reducible repeat (first | apply Kd.R_alloc | apply Kd.R_drewN | apply Kd.R_drew)); exact HO_14.out))) (Kd.R_lt (by (with_reducible repeat (first | apply Kd.R_alloc | apply Kd.R_drewN | apply Kd.R_drew)); exact HO718.out))) (below_size (by repeat (first | (with_reducible first | exact HB.out | apply below_alloc | apply pw_below_drewN | apply below_drew1) | exact HB.out)))); have n4_ := Aside0.mk (below_step (by repeat (first | (with_reducible first | exact HB.out | apply below_alloc | apply pw_below_drewN | apply below_drew1) | exact HB.out)) hb); clear HO_12; clear HO_14; clear HO718; clear HB; have HO_12 := n0_; have HO_14 := n1_; have HO718 := n2_; have HO733 := n3_; have HB := n4_; clear n0_ n1_ n2_ n3_ n4_; clear hb ho HL2 HB2 HC2 HN2))
                          (try simp only [Act.put, List.setIfInBounds_toArray, List.set_cons_zero, List.set_cons_succ])
                          go_cut [84] (fun v84 wc => ∃ (kq : Nat) (x84_24 : Bool), v84 = .bool x84_24 ∧ Aside0 (casketlaw18_KeysApart.j2 kq l0 t695 t696 t700 y716 y731 x84_24 = some r) ∧ Aside0 (kq ≤ kj13) ∧ Aside0 (Kd.R (Kd.int .u8) 5 wc w.heap.size (fun k_ => some k_ ≠ (v702 : Value).ownBlock ∧ some k_ ≠ (v717 : Value).ownBlock ∧ some k_ ≠ (v732 : Value).ownBlock) v698 t696) ∧ Aside0 (Kd.R (Kd.int .u8) 5 wc w.heap.size (fun k_ => some k_ ≠ (v698 : Value).ownBlock ∧ some k_ ≠ (v717 : Value).ownBlock ∧ some k_ ≠ (v732 : Value).ownBlock) v702 t700) ∧ Aside0 (Kd.R (Kd.int .u8) 5 wc w.heap.size (fun k_ => some k_ ≠ (v698 : Value).ownBlock ∧ some k_ ≠ (v702 : Value).ownBlock ∧ some k_ ≠ (v732 : Value).ownBlock) v717 y716) ∧ Aside0 (Kd.R (Kd.int .u8) 5 wc w.heap.size (fun k_ => some k_ ≠ (v698 : Value).ownBlock ∧ some k_ ≠ (v702 : Value).ownBlock ∧ some k_ ≠ (v717 : Value).ownBlock) v732 y731) ∧ Aside0 (Below w.heap.size w wc))
                          case first =>
                            have H := HC25.out
                            clear HC25
                            replace H := Option.bind_eq_some_iff.mp H
                            obtain ⟨t734, A420, H⟩ := H
                            replace H : (if a1 = a3 then (casketlaw18_KeysApart.j2 kj13 l0 t695 t696 t700 y716 y731 (t734 != (a2.toList == a4.toList))) else (casketlaw18_KeysApart.j2 kj13 l0 t695 t696 t700 y716 y731 (t734 != false))) = some r := H
                            have A42 := Aside0.mk A420
                            clear A420
                            by_cases c43 : a1 = a3
                            · rw [if_pos c43] at H
                              have c43b0 : (a1 == a3) = true := beq_iff_eq.mpr c43
                              have c43b1 : (a1 != a3) = false := bne_eq_false_iff_eq.mpr c43
                              clear c43
                              (first | rw [c43b0] | (simp only [i64_w, i32_w]; rw [c43b0]) | skip)
                              have H' := Aside0.mk H
                              clear H
                              obtain ⟨Ao44, co44, eo44⟩ := Kd.R_slice HO718.out
                              subst eo44
                              obtain ⟨Ao45, co45, eo45⟩ := Kd.R_slice HO733.out
                              subst eo45
                              go_wp2_with (first | ((with_reducible refine gate_callee (f := 39) rfl ?_); refine goesL_ (some 75) rfl rfl Try.func39 (by kernel_rfl) rfl #[.slice Ao44 y716.length co44, .slice Ao45 y731.length co45] rfl (by (try simp only [List.map_toArray, List.map_cons, List.map_nil]); first | done | rfl | (simp only [List.length_drop, List.length_take]; rfl)) ?_; (with_reducible refine (casketlaw18_same.calls kj13 _ _ y716 _ _ y731 t734 _ ?side1 ?side2 ?side3 ?side4 A42.out).mono ?_); (case side1 => repeat (first | exact (Kd.R_reads' HO718.out).2.2 | (with_reducible refine Kd.C_alloc ?_ _) | (with_reducible refine Kd.C_drewN ?_ _) | (with_reducible refine Kd.C_drew ?_))); (case side2 => exact (Kd.R_reads' HO718.out).2.1); (case side3 => repeat (first | exact (Kd.R_reads' HO733.out).2.2 | (with_reducible refine Kd.C_alloc ?_ _) | (with_reducible refine Kd.C_drewN ?_ _) | (with_reducible refine Kd.C_drew ?_))); (case side4 => exact (Kd.R_reads' HO733.out).2.1); rintro e w' ⟨rfl, ⟨nd, rfl⟩⟩; refine ⟨_, rfl, ?_⟩))
                              go_meet
                              case rel => exact ⟨_, ((t734 != (a2.toList == a4.toList))), (by first | rfl | (simp; done) | (simp [*]; done)), H', ⟨by have := HJ6.out; have := HJ13.out; first | omega | exact Nat.le_refl _⟩, ⟨by (with_reducible repeat (first | apply Kd.R_alloc | apply Kd.R_drewN | apply Kd.R_drew)); exact Kd.R_mono HO_12.out (fun _ hk => ⟨hk.1.1, ⟨hk.1.2, hk.2⟩⟩)⟩, ⟨by (with_reducible repeat (first | apply Kd.R_alloc | apply Kd.R_drewN | apply Kd.R_drew)); exact Kd.R_mono HO_14.out (fun _ hk => ⟨hk.1.1, ⟨hk.1.2, hk.2⟩⟩)⟩, ⟨by (with_reducible repeat (first | apply Kd.R_alloc | apply Kd.R_drewN | apply Kd.R_drew)); exact Kd.R_mono HO718.out (fun _ hk => ⟨hk.1.1.2, ⟨hk.1.2, hk.2⟩⟩)⟩, ⟨by (with_reducible repeat (first | apply Kd.R_alloc | apply Kd.R_drewN | apply Kd.R_drew)); exact Kd.R_mono HO733.out (fun _ hk => ⟨hk.1.1.2, ⟨hk.1.2, hk.2⟩⟩)⟩, ⟨by repeat (first | (with_reducible first | exact HB.out | apply below_alloc | apply pw_below_drewN | apply below_drew1) | exact HB.out)⟩⟩
                            · rw [if_neg c43] at H
                              have c43b0 : (a1 == a3) = false := beq_eq_false_iff_ne.mpr c43
                              have c43b1 : (a1 != a3) = true := bne_iff_ne.mpr c43
                              (first | rw [c43b0] | (simp only [i64_w, i32_w]; rw [c43b0]) | skip)
                              have H' := Aside0.mk H
                              clear H
                              obtain ⟨Ao46, co46, eo46⟩ := Kd.R_slice HO718.out
                              subst eo46
                              obtain ⟨Ao47, co47, eo47⟩ := Kd.R_slice HO733.out
                              subst eo47
                              go_wp2_with (first | ((with_reducible refine gate_callee (f := 39) rfl ?_); refine goesL_ (some 75) rfl rfl Try.func39 (by kernel_rfl) rfl #[.slice Ao46 y716.length co46, .slice Ao47 y731.length co47] rfl (by (try simp only [List.map_toArray, List.map_cons, List.map_nil]); first | done | rfl | (simp only [List.length_drop, List.length_take]; rfl)) ?_; (with_reducible refine (casketlaw18_same.calls kj13 _ _ y716 _ _ y731 t734 _ ?side1 ?side2 ?side3 ?side4 A42.out).mono ?_); (case side1 => repeat (first | exact (Kd.R_reads' HO718.out).2.2 | (with_reducible refine Kd.C_alloc ?_ _) | (with_reducible refine Kd.C_drewN ?_ _) | (with_reducible refine Kd.C_drew ?_))); (case side2 => exact (Kd.R_reads' HO718.out).2.1); (case side3 => repeat (first | exact (Kd.R_reads' HO733.out).2.2 | (with_reducible refine Kd.C_alloc ?_ _) | (with_reducible refine Kd.C_drewN ?_ _) | (with_reducible refine Kd.C_drew ?_))); (case side4 => exact (Kd.R_reads' HO733.out).2.1); rintro e w' ⟨rfl, ⟨nd, rfl⟩⟩; refine ⟨_, rfl, ?_⟩))
                              go_meet
                              case rel => exact ⟨_, ((t734 != false)), (by first | rfl | (simp; done) | (simp [*]; done)), H', ⟨by have := HJ6.out; have := HJ13.out; first | omega | exact Nat.le_refl _⟩, ⟨by (with_reducible repeat (first | apply Kd.R_alloc | apply Kd.R_drewN | apply Kd.R_drew)); exact Kd.R_mono HO_12.out (fun _ hk => ⟨hk.1.1, ⟨hk.1.2, hk.2⟩⟩)⟩, ⟨by (with_reducible repeat (first | apply Kd.R_alloc | apply Kd.R_drewN | apply Kd.R_drew)); exact Kd.R_mono HO_14.out (fun _ hk => ⟨hk.1.1, ⟨hk.1.2, hk.2⟩⟩)⟩, ⟨by (with_reducible repeat (first | apply Kd.R_alloc | apply Kd.R_drewN | apply Kd.R_drew)); exact Kd.R_mono HO718.out (fun _ hk => ⟨hk.1.1.2, ⟨hk.1.2, hk.2⟩⟩)⟩, ⟨by (with_reducible repeat (first | apply Kd.R_alloc | apply Kd.R_drewN | apply Kd.R_drew)); exact Kd.R_mono HO733.out (fun _ hk => ⟨hk.1.1.2, ⟨hk.1.2, hk.2⟩⟩)⟩, ⟨by repeat (first | (with_reducible first | exact HB.out | apply below_alloc | apply pw_below_drewN | apply below_drew1) | exact HB.out)⟩⟩
                          case rest =>
                            clear HC25
                            try clear c1
                            try clear c2
                            try clear p2
                            try clear c3
                            try clear c4
                            try clear c9
                            try clear c9b0
                            try clear c9b1
                            try clear c10
                            try clear c10b0
                            try clear c10b1
                            try clear c11
                            try clear c16
                            try clear c17
                            try clear c17b0
                            try clear c17b1
                            try clear c18
                            try clear c19
                            try clear c20
                            try clear c21
                            try clear c22
                            try clear c23
                            try clear c24
                            try clear c36
                            try clear c37
                            try clear c39
                            try clear c43
                            try clear c43b0
                            try clear c43b1
                            try clear p2
                            obtain ⟨kq, x84_24, rfl, HA, HJ24, HO_12, HO_14, HO_16, HO_17, HB⟩ := hcut
                            cases kq with
                            | zero => exact absurd HA.out (by simp [casketlaw18_KeysApart.j2])
                            | succ kj24 =>
                              have H := HA.out
                              clear HA
                              simp only [casketlaw18_KeysApart.j2] at H
                              by_cases c48 : x84_24 = true
                              · subst c48
                                have H1 : (some false) = some r := by rw [if_pos rfl] at H; exact H
                                clear H
                                have H := H1
                                clear H1
                                obtain rfl := Option.some.inj H
                                go_wp2
                                go_ret
                                exact ⟨by first | rfl | (simp [errW_none, errW_some] <;> rfl) | (simp [*, errW_none, errW_some] <;> rfl), by repeat (first | (with_reducible first | exact HB.out | apply below_alloc | apply pw_below_drewN | apply below_drew1) | exact HB.out)⟩
                              · replace c48 := Bool.eq_false_iff.mpr c48
                                subst c48
                                have H1 : (if t695 = true then ((hmac_MAC.f l0 y716).bind fun t735 => ((casketlaw18_same.f kj24 t696 t735).bind fun t738 => (if t738 = true then ((hmac_MAC.f l0 y731).bind fun t739 => ((casketlaw18_same.f kj24 t700 t739).bind fun t742 => (some t742))) else (some false)))) else (some false)) = some r := by rw [if_neg (show ¬ (false = true) by decide)] at H; exact H
                                clear H
                                have H := H1
                                clear H1
                                by_cases c49 : t695 = true
                                · subst c49
                                  have H1 : ((hmac_MAC.f l0 y716).bind fun t735 => ((casketlaw18_same.f kj24 t696 t735).bind fun t738 => (if t738 = true then ((hmac_MAC.f l0 y731).bind fun t739 => ((casketlaw18_same.f kj24 t700 t739).bind fun t742 => (some t742))) else (some false)))) = some r := by rw [if_pos rfl] at H; exact H
                                  clear H
                                  have H := H1
                                  clear H1
                                  replace H := Option.bind_eq_some_iff.mp H
                                  obtain ⟨t735, A500, H⟩ := H
                                  replace H : ((casketlaw18_same.f kj24 t696 t735).bind fun t738 => (if t738 = true then ((hmac_MAC.f l0 y731).bind fun t739 => ((casketlaw18_same.f kj24 t700 t739).bind fun t742 => (some t742))) else (some false))) = some r := H
                                  have A50 := Aside0.mk A500
                                  clear A500
                                  replace H := Option.bind_eq_some_iff.mp H
                                  obtain ⟨t738, A510, H⟩ := H
                                  replace H : (if t738 = true then ((hmac_MAC.f l0 y731).bind fun t739 => ((casketlaw18_same.f kj24 t700 t739).bind fun t742 => (some t742))) else (some false)) = some r := H
                                  have A51 := Aside0.mk A510
                                  clear A510
                                  by_cases c52 : t738 = true
                                  · subst c52
                                    have H1 : ((hmac_MAC.f l0 y731).bind fun t739 => ((casketlaw18_same.f kj24 t700 t739).bind fun t742 => (some t742))) = some r := by rw [if_pos rfl] at H; exact H
                                    clear H
                                    have H := H1
                                    clear H1
                                    replace H := Option.bind_eq_some_iff.mp H
                                    obtain ⟨t739, A530, H⟩ := H
                                    replace H : ((casketlaw18_same.f kj24 t700 t739).bind fun t742 => (some t742)) = some r := H
                                    have A53 := Aside0.mk A530
                                    clear A530
                                    replace H := Option.bind_eq_some_iff.mp H
                                    obtain ⟨t742, A540, H⟩ := H
                                    replace H : (some t742) = some r := H
                                    have A54 := Aside0.mk A540
                                    clear A540
                                    obtain rfl := Option.some.inj H
                                    obtain ⟨Ao55, co55, eo55⟩ := Kd.R_slice HO_16.out
                                    subst eo55
                                    go_wp2_with (first | (go_at_call 28; (with_reducible refine (hmac_MAC.calls _ _ l0 _ _ y716 t735 _ ?side1 ?side2 ?side3 ?side4 A50.out).mono ?_); (case side1 => repeat (first | exact (Kd.C_below HR0.out HB.out) | (with_reducible refine Kd.C_alloc ?_ _) | (with_reducible refine Kd.C_drewN ?_ _) | (with_reducible refine Kd.C_drew ?_))); (case side2 => exact HC0.out); (case side3 => repeat (first | exact (Kd.R_reads' HO_16.out).2.2 | (with_reducible refine Kd.C_alloc ?_ _) | (with_reducible refine Kd.C_drewN ?_ _) | (with_reducible refine Kd.C_drew ?_))); (case side4 => exact (Kd.R_reads' HO_16.out).2.1); rintro e w56 ⟨v736, rfl, ho0, hb⟩; have n0_ := Aside0.mk (Kd.R_elder' (by (with_reducible repeat (first | apply Kd.R_alloc | apply Kd.R_drewN | apply Kd.R_drew)); exact HO_12.out) (Kd.R_base ho0) hb); have n1_ := Aside0.mk (Kd.R_elder' (by (with_reducible repeat (first | apply Kd.R_alloc | apply Kd.R_drewN | apply Kd.R_drew)); exact HO_14.out) (Kd.R_base ho0) hb); have n2_ := Aside0.mk (Kd.R_elder' (by (with_reducible repeat (first | apply Kd.R_alloc | apply Kd.R_drewN | apply Kd.R_drew)); exact HO_16.out) (Kd.R_base ho0) hb); have n3_ := Aside0.mk (Kd.R_elder' (by (with_reducible repeat (first | apply Kd.R_alloc | apply Kd.R_drewN | apply Kd.R_drew)); exact HO_17.out) (Kd.R_base ho0) hb); have n4_ := Aside0.mk (Kd.R_lower (Kd.R_new' (Kd.R_new' (Kd.R_new' (Kd.R_new' ho0 (Kd.R_lt (by (with_reducible repeat (first | apply Kd.R_alloc | apply Kd.R_drewN | apply Kd.R_drew)); exact HO_12.out))) (Kd.R_lt (by (with_reducible repeat (first | apply Kd.R_alloc | apply Kd.R_drewN | apply Kd.R_drew)); exact HO_14.out))) (Kd.R_lt (by (with_reducible repeat (first | apply Kd.R_alloc | apply Kd.R_drewN | apply Kd.R_drew)); exact HO_16.out))) (Kd.R_lt (by (with_reducible repeat (first | apply Kd.R_alloc | apply Kd.R_drewN | apply Kd.R_drew)); exact HO_17.out))) (below_size (by repeat (first | (with_reducible first | exact HB.out | apply below_alloc | apply pw_below_drewN | apply below_drew1) | exact HB.out)))); have n5_ := Aside0.mk (below_step (by repeat (first | (with_reducible first | exact HB.out | apply below_alloc | apply pw_below_drewN | apply below_drew1) | exact HB.out)) hb); clear HO_12; clear HO_14; clear HO_16; clear HO_17; clear HB; have HO_12 := n0_; have HO_14 := n1_; have HO_16 := n2_; have HO_17 := n3_; have HO737 := n4_; have HB := n5_; clear n0_ n1_ n2_ n3_ n4_ n5_; (try clear hb); (try clear hb2); (try clear hk); (try clear hi); (try clear ho0); obtain ⟨Ao57, co57, eo57⟩ := Kd.R_slice HO_12.out; subst eo57; obtain ⟨Ao58, co58, eo58⟩ := Kd.R_slice HO737.out; subst eo58) | (go_at_call 39; (with_reducible refine (casketlaw18_same.calls kj24 _ _ t696 _ _ t735 true _ ?side1 ?side2 ?side3 ?side4 A51.out).mono ?_); (case side1 => repeat (first | exact (Kd.R_reads' HO_12.out).2.2 | (with_reducible refine Kd.C_alloc ?_ _) | (with_reducible refine Kd.C_drewN ?_ _) | (with_reducible refine Kd.C_drew ?_))); (case side2 => exact (Kd.R_reads' HO_12.out).2.1); (case side3 => repeat (first | exact (Kd.R_reads' HO737.out).2.2 | (with_reducible refine Kd.C_alloc ?_ _) | (with_reducible refine Kd.C_drewN ?_ _) | (with_reducible refine Kd.C_drew ?_))); (case side4 => exact (Kd.R_reads' HO737.out).2.1); rintro e w' ⟨rfl, ⟨nd, rfl⟩⟩; obtain ⟨Ao59, co59, eo59⟩ := Kd.R_slice HO_17.out; subst eo59) | (go_at_call 28; (with_reducible refine (hmac_MAC.calls _ _ l0 _ _ y731 t739 _ ?side1 ?side2 ?side3 ?side4 A53.out).mono ?_); (case side1 => repeat (first | exact (Kd.C_below HR0.out (by repeat (first | (with_reducible first | exact HB.out | apply below_alloc | apply pw_below_drewN | apply below_drew1) | exact HB.out))) | (with_reducible refine Kd.C_alloc ?_ _) | (with_reducible refine Kd.C_drewN ?_ _) | (with_reducible refine Kd.C_drew ?_))); (case side2 => exact HC0.out); (case side3 => repeat (first | exact (Kd.R_reads' HO_17.out).2.2 | (with_reducible refine Kd.C_alloc ?_ _) | (with_reducible refine Kd.C_drewN ?_ _) | (with_reducible refine Kd.C_drew ?_))); (case side4 => exact (Kd.R_reads' HO_17.out).2.1); rintro e w60 ⟨v740, rfl, ho0, hb⟩; have n0_ := Aside0.mk (Kd.R_elder' (by (with_reducible repeat (first | apply Kd.R_alloc | apply Kd.R_drewN | apply Kd.R_drew)); exact HO_12.out) (Kd.R_base ho0) hb); have n1_ := Aside0.mk (Kd.R_elder' (by (with_reducible repeat (first | apply Kd.R_alloc | apply Kd.R_drewN | apply Kd.R_drew)); exact HO_14.out) (Kd.R_base ho0) hb); have n2_ := Aside0.mk (Kd.R_elder' (by (with_reducible repeat (first | apply Kd.R_alloc | apply Kd.R_drewN | apply Kd.R_drew)); exact HO_16.out) (Kd.R_base ho0) hb); have n3_ := Aside0.mk (Kd.R_elder' (by (with_reducible repeat (first | apply Kd.R_alloc | apply Kd.R_drewN | apply Kd.R_drew)); exact HO_17.out) (Kd.R_base ho0) hb); have n4_ := Aside0.mk (Kd.R_elder' (by (with_reducible repeat (first | apply Kd.R_alloc | apply Kd.R_drewN | apply Kd.R_drew)); exact HO737.out) (Kd.R_base ho0) hb); have n5_ := Aside0.mk (Kd.R_lower (Kd.R_new' (Kd.R_new' (Kd.R_new' (Kd.R_new' (Kd.R_new' ho0 (Kd.R_lt (by (with_reducible repeat (first | apply Kd.R_alloc | apply Kd.R_drewN | apply Kd.R_drew)); exact HO_12.out))) (Kd.R_lt (by (with_reducible repeat (first | apply Kd.R_alloc | apply Kd.R_drewN | apply Kd.R_drew)); exact HO_14.out))) (Kd.R_lt (by (with_reducible repeat (first | apply Kd.R_alloc | apply Kd.R_drewN | apply Kd.R_drew)); exact HO_16.out))) (Kd.R_lt (by (with_reducible repeat (first | apply Kd.R_alloc | apply Kd.R_drewN | apply Kd.R_drew)); exact HO_17.out))) (Kd.R_lt (by (with_reducible repeat (first | apply Kd.R_alloc | apply Kd.R_drewN | apply Kd.R_drew)); exact HO737.out))) (below_size (by repeat (first | (with_reducible first | exact HB.out | apply below_alloc | apply pw_below_drewN | apply below_drew1) | exact HB.out)))); have n6_ := Aside0.mk (below_step (by repeat (first | (with_reducible first | exact HB.out | apply below_alloc | apply pw_below_drewN | apply below_drew1) | exact HB.out)) hb); clear HO_12; clear HO_14; clear HO_16; clear HO_17; clear HO737; clear HB; have HO_12 := n0_; have HO_14 := n1_; have HO_16 := n2_; have HO_17 := n3_; have HO737 := n4_; have HO741 := n5_; have HB := n6_; clear n0_ n1_ n2_ n3_ n4_ n5_ n6_; (try clear hb); (try clear hb2); (try clear hk); (try clear hi); (try clear ho0); obtain ⟨Ao61, co61, eo61⟩ := Kd.R_slice HO_14.out; subst eo61; obtain ⟨Ao62, co62, eo62⟩ := Kd.R_slice HO741.out; subst eo62) | (go_at_call 39; (with_reducible refine (casketlaw18_same.calls kj24 _ _ t700 _ _ t739 t742 _ ?side1 ?side2 ?side3 ?side4 A54.out).mono ?_); (case side1 => repeat (first | exact (Kd.R_reads' HO_14.out).2.2 | (with_reducible refine Kd.C_alloc ?_ _) | (with_reducible refine Kd.C_drewN ?_ _) | (with_reducible refine Kd.C_drew ?_))); (case side2 => exact (Kd.R_reads' HO_14.out).2.1); (case side3 => repeat (first | exact (Kd.R_reads' HO741.out).2.2 | (with_reducible refine Kd.C_alloc ?_ _) | (with_reducible refine Kd.C_drewN ?_ _) | (with_reducible refine Kd.C_drew ?_))); (case side4 => exact (Kd.R_reads' HO741.out).2.1); rintro e w' ⟨rfl, ⟨nd, rfl⟩⟩))
                                    go_ret
                                    exact ⟨by first | rfl | (simp [errW_none, errW_some] <;> rfl) | (simp [*, errW_none, errW_some] <;> rfl), by repeat (first | (with_reducible first | exact HB.out | apply below_alloc | apply pw_below_drewN | apply below_drew1) | exact HB.out)⟩
                                  · replace c52 := Bool.eq_false_iff.mpr c52
                                    subst c52
                                    have H1 : (some false) = some r := by rw [if_neg (show ¬ (false = true) by decide)] at H; exact H
                                    clear H
                                    have H := H1
                                    clear H1
                                    obtain rfl := Option.some.inj H
                                    obtain ⟨Ao63, co63, eo63⟩ := Kd.R_slice HO_16.out
                                    subst eo63
                                    go_wp2_with (first | (go_at_call 28; (with_reducible refine (hmac_MAC.calls _ _ l0 _ _ y716 t735 _ ?side1 ?side2 ?side3 ?side4 A50.out).mono ?_); (case side1 => repeat (first | exact (Kd.C_below HR0.out HB.out) | (with_reducible refine Kd.C_alloc ?_ _) | (with_reducible refine Kd.C_drewN ?_ _) | (with_reducible refine Kd.C_drew ?_))); (case side2 => exact HC0.out); (case side3 => repeat (first | exact (Kd.R_reads' HO_16.out).2.2 | (with_reducible refine Kd.C_alloc ?_ _) | (with_reducible refine Kd.C_drewN ?_ _) | (with_reducible refine Kd.C_drew ?_))); (case side4 => exact (Kd.R_reads' HO_16.out).2.1); rintro e w64 ⟨v736, rfl, ho0, hb⟩; have n0_ := Aside0.mk (Kd.R_elder' (by (with_reducible repeat (first | apply Kd.R_alloc | apply Kd.R_drewN | apply Kd.R_drew)); exact HO_12.out) (Kd.R_base ho0) hb); have n1_ := Aside0.mk (Kd.R_elder' (by (with_reducible repeat (first | apply Kd.R_alloc | apply Kd.R_drewN | apply Kd.R_drew)); exact HO_14.out) (Kd.R_base ho0) hb); have n2_ := Aside0.mk (Kd.R_elder' (by (with_reducible repeat (first | apply Kd.R_alloc | apply Kd.R_drewN | apply Kd.R_drew)); exact HO_16.out) (Kd.R_base ho0) hb); have n3_ := Aside0.mk (Kd.R_elder' (by (with_reducible repeat (first | apply Kd.R_alloc | apply Kd.R_drewN | apply Kd.R_drew)); exact HO_17.out) (Kd.R_base ho0) hb); have n4_ := Aside0.mk (Kd.R_lower (Kd.R_new' (Kd.R_new' (Kd.R_new' (Kd.R_new' ho0 (Kd.R_lt (by (with_reducible repeat (first | apply Kd.R_alloc | apply Kd.R_drewN | apply Kd.R_drew)); exact HO_12.out))) (Kd.R_lt (by (with_reducible repeat (first | apply Kd.R_alloc | apply Kd.R_drewN | apply Kd.R_drew)); exact HO_14.out))) (Kd.R_lt (by (with_reducible repeat (first | apply Kd.R_alloc | apply Kd.R_drewN | apply Kd.R_drew)); exact HO_16.out))) (Kd.R_lt (by (with_reducible repeat (first | apply Kd.R_alloc | apply Kd.R_drewN | apply Kd.R_drew)); exact HO_17.out))) (below_size (by repeat (first | (with_reducible first | exact HB.out | apply below_alloc | apply pw_below_drewN | apply below_drew1) | exact HB.out)))); have n5_ := Aside0.mk (below_step (by repeat (first | (with_reducible first | exact HB.out | apply below_alloc | apply pw_below_drewN | apply below_drew1) | exact HB.out)) hb); clear HO_12; clear HO_14; clear HO_16; clear HO_17; clear HB; have HO_12 := n0_; have HO_14 := n1_; have HO_16 := n2_; have HO_17 := n3_; have HO737 := n4_; have HB := n5_; clear n0_ n1_ n2_ n3_ n4_ n5_; (try clear hb); (try clear hb2); (try clear hk); (try clear hi); (try clear ho0); obtain ⟨Ao65, co65, eo65⟩ := Kd.R_slice HO_12.out; subst eo65; obtain ⟨Ao66, co66, eo66⟩ := Kd.R_slice HO737.out; subst eo66) | (go_at_call 39; (with_reducible refine (casketlaw18_same.calls kj24 _ _ t696 _ _ t735 false _ ?side1 ?side2 ?side3 ?side4 A51.out).mono ?_); (case side1 => repeat (first | exact (Kd.R_reads' HO_12.out).2.2 | (with_reducible refine Kd.C_alloc ?_ _) | (with_reducible refine Kd.C_drewN ?_ _) | (with_reducible refine Kd.C_drew ?_))); (case side2 => exact (Kd.R_reads' HO_12.out).2.1); (case side3 => repeat (first | exact (Kd.R_reads' HO737.out).2.2 | (with_reducible refine Kd.C_alloc ?_ _) | (with_reducible refine Kd.C_drewN ?_ _) | (with_reducible refine Kd.C_drew ?_))); (case side4 => exact (Kd.R_reads' HO737.out).2.1); rintro e w' ⟨rfl, ⟨nd, rfl⟩⟩))
                                    go_ret
                                    exact ⟨by first | rfl | (simp [errW_none, errW_some] <;> rfl) | (simp [*, errW_none, errW_some] <;> rfl), by repeat (first | (with_reducible first | exact HB.out | apply below_alloc | apply pw_below_drewN | apply below_drew1) | exact HB.out)⟩
                                · replace c49 := Bool.eq_false_iff.mpr c49
                                  subst c49
                                  have H1 : (some false) = some r := by rw [if_neg (show ¬ (false = true) by decide)] at H; exact H
                                  clear H
                                  have H := H1
                                  clear H1
                                  obtain rfl := Option.some.inj H
                                  go_wp2
                                  go_ret
                                  exact ⟨by first | rfl | (simp [errW_none, errW_some] <;> rfl) | (simp [*, errW_none, errW_some] <;> rfl), by repeat (first | (with_reducible first | exact HB.out | apply below_alloc | apply pw_below_drewN | apply below_drew1) | exact HB.out)⟩
                        · rw [if_neg c24] at H
                          exact absurd H (by simp)
                      · rw [if_neg c23] at H
                        exact absurd H (by simp)
                    · rw [if_neg c22] at H
                      exact absurd H (by simp)
                  · rw [if_neg c21] at H
                    exact absurd H (by simp)
                · rw [if_neg c20] at H
                  exact absurd H (by simp)
              · rw [if_neg c19] at H
                exact absurd H (by simp)

theorem casketlaw18_KeysApart.walk (P : casketlaw18_KeysApart.Pure) (a0 : Option Addr) (len0 cap0 : Nat) (z0 : List Int) (a1 : Int) (a2 : ByteArray) (a3 : Int) (a4 : ByteArray) (w : World) (w0 : (a0 = none ∧ len0 = 0 ∧ cap0 = 0 ∧ z0 = []) ∨ ∃ x, a0 = some x ∧ len0 ≤ cap0 ∧ cap0 ≤ maxLen ∧ z0.length = cap0 ∧ (∀ i, i < z0.length → w.cell? (x.add i) = some (.int .u8 (z0.getD i 0))) ∧ ∀ n ∈ z0, (Lit.int .u8 n).wf = true) (y0 : len0 * 1 ≤ 140737488351232) (w1 : (Lit.int .u8 a1).wf = true) (w2 : a2.size ≤ 140737488351232) (w3 : (Lit.int .u8 a3).wf = true) (w4 : a4.size ≤ 140737488351232) :
    Calls Try.prog 16 #[.slice a0 len0 cap0, .int .u8 a1, .string a2, .int .u8 a3, .string a4] w fun e w' => e = .returned (.bool true) ∧ Below w.heap.size w w' := by
  obtain ⟨l0, rfl, hr0, hm0, hw0, hc0⟩ := ReadsInt.ofRowC w0
  obtain ⟨k, h⟩ := P l0 a1 a2 a3 a4 hm0 y0 hw0 w1 w2 w3 w4
  refine (casketlaw18_KeysApart.calls k _ _ l0 a1 a2 a3 a4 true w (Kd.C_of_reads (d := (0 : Int)) (h1 := fun _ => rfl) hr0) hc0 h).mono ?_
  rintro e w' ⟨rfl, hd⟩
  exact ⟨rfl, hd⟩


end Go.Proofs.Ytgdogjnjbinoiaa.Q
