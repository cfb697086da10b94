/- What the calls of these Go functions answer (contracts): casketlaw17_AeadTurned. Each under the conditions that it states. -/
import Derived.Test.YtllaobhheokafaaC0
import Derived.Test.YtllaobhheokafaaCaead
import Derived.Test.YtllaobhheokafaaCaeadw
import Derived.Test.YtllaobhheokafaaCref15w
import Derived.Test.YtllaobhheokafaaCref17t
import Derived.Test.YtllaobhheokafaaDAeadTurned
import Derived.Test.YtllaobhheokafaaDaead
import Derived.Test.YtllaobhheokafaaDref15
import Derived.Test.YtllaobhheokafaaDref17
namespace Go.Proofs.Ytllaobhheokafaa.Q
open Go.RowKit Go.Proofs.YtllaobhheokafaaW.PrintWords Go.Proofs.YtllaobhheokafaaW.PrintLast Go.Proofs.YtllaobhheokafaaW.PrintMore
attribute [local go_sem] max2_int min2_int max_two min_two max_three min_three max_four min_four   -- for this text's walks alone
set_option linter.unusedVariables false
set_option linter.unusedSimpArgs false

def casketlaw17_AeadTurned.T11 : Bool × List (List Nat × List Nat) := (true, [([], []), ([], []), ([], []), ([], []), ([], []), ([3, 4], [3, 4]), ([0, 1, 2, 5], [0, 1, 2, 5]), ([], []), ([], []), ([7, 8], [7, 8]), ([6, 9, 6], [6, 9]), ([10, 10, 0, 1, 2, 3, 4, 5, 6, 7, 8, 9, 10], [10])])
def casketlaw17_AeadTurned.B11 : List Nat := [0, 0, 0, 0, 0, 24, 63, 0, 0, 384, 1023, 2047]
theorem casketlaw17_AeadTurned.tab11 : rtab .any (opsOf Try.f18 11) = casketlaw17_AeadTurned.T11 := by kernel_rfl
theorem casketlaw17_AeadTurned.bits11 : waitsOk casketlaw17_AeadTurned.T11.2 casketlaw17_AeadTurned.B11 = true := by kernel_rfl
def casketlaw17_AeadTurned.T14 : Bool × List (List Nat × List Nat) := (true, [([], []), ([], []), ([], []), ([], []), ([], []), ([3, 4], [3, 4]), ([0, 1, 2, 5], [0, 1, 2, 5]), ([], []), ([], []), ([7, 8], [7, 8]), ([6, 9, 6], [6, 9]), ([10, 10, 0, 1, 2, 3, 4, 5, 6, 7, 8, 9, 10], [10])])
def casketlaw17_AeadTurned.B14 : List Nat := [0, 0, 0, 0, 0, 24, 63, 0, 0, 384, 1023, 2047]
theorem casketlaw17_AeadTurned.tab14 : rtab .any (opsOf Try.f18 14) = casketlaw17_AeadTurned.T14 := by kernel_rfl
theorem casketlaw17_AeadTurned.bits14 : waitsOk casketlaw17_AeadTurned.T14.2 casketlaw17_AeadTurned.B14 = true := by kernel_rfl
set_option maxHeartbeats 8000000 in
set_option maxRecDepth 100000 in
theorem casketlaw17_AeadTurned.calls (k : Nat) (A0 : Option Addr) (c0 : Nat) (l0 : List Int) (A1 : Option Addr) (c1 : Nat) (l1 : List Int) (A2 : Option Addr) (c2 : Nat) (l2 : List Int) (A3 : Option Addr) (c3 : Nat) (l3 : List Int) (a4 : Int) (a5 : Int) (r : Bool) (w : World) (hr0 : Kd.C (Kd.int .u8) w A0 l0.length l0) (hc0 : l0.length ≤ c0) (hr1 : Kd.C (Kd.int .u8) w A1 l1.length l1) (hc1 : l1.length ≤ c1) (hr2 : Kd.C (Kd.int .u8) w A2 l2.length l2) (hc2 : l2.length ≤ c2) (hr3 : Kd.C (Kd.int .u8) w A3 l3.length l3) (hc3 : l3.length ≤ c3) (h : casketlaw17_AeadTurned.f k l0 l1 l2 l3 a4 a5 = some r) :
    Calls Try.prog 18 #[.slice A0 l0.length c0, .slice A1 l1.length c1, .slice A2 l2.length c2, .slice A3 l3.length c3, .int .i64 a4, .int .u8 a5] w fun e w' => e = .returned (.bool r) ∧ Below w.heap.size w w' := by
  have HR0 := Aside0.mk hr0
  have HC0 := Aside0.mk hc0
  clear hr0 hc0
  have HR1 := Aside0.mk hr1
  have HC1 := Aside0.mk hc1
  clear hr1 hc1
  have HR2 := Aside0.mk hr2
  have HC2 := Aside0.mk hc2
  clear hr2 hc2
  have HR3 := Aside0.mk hr3
  have HC3 := Aside0.mk hc3
  clear hr3 hc3
  have HB := Aside0.mk (Below.refl w.heap.size w)
  have H : ((casketlaw17_awake.f k).bind fun t451 => (if (l0.length : Int) = 32 then (if (l1.length : Int) = 12 then (if (l2.length : Int) > 300 then (casketlaw17_AeadTurned.j0 k l0 l1 l2 l3 a4 a5 t451 true) else (casketlaw17_AeadTurned.j0 k l0 l1 l2 l3 a4 a5 t451 (decide ((l3.length : Int) > 600)))) else (casketlaw17_AeadTurned.j0 k l0 l1 l2 l3 a4 a5 t451 true)) else (casketlaw17_AeadTurned.j0 k l0 l1 l2 l3 a4 a5 t451 true))) = some r := h
  clear h
  replace H := Option.bind_eq_some_iff.mp H
  obtain ⟨t451, A70, H⟩ := H
  replace H : (if (l0.length : Int) = 32 then (if (l1.length : Int) = 12 then (if (l2.length : Int) > 300 then (casketlaw17_AeadTurned.j0 k l0 l1 l2 l3 a4 a5 t451 true) else (casketlaw17_AeadTurned.j0 k l0 l1 l2 l3 a4 a5 t451 (decide ((l3.length : Int) > 600)))) else (casketlaw17_AeadTurned.j0 k l0 l1 l2 l3 a4 a5 t451 true)) else (casketlaw17_AeadTurned.j0 k l0 l1 l2 l3 a4 a5 t451 true)) = some r := H
  have A7 := Aside0.mk A70
  clear A70
  have HC8 := Aside0.mk H
  clear H
  go_enter Try.func18, Try.ntmps18
  go_upto_region 2 with (first | ((with_reducible refine gate_callee (f := 33) rfl ?_); refine goesL_ (some 26) rfl rfl Try.func33 (by kernel_rfl) rfl #[] rfl (by (try simp only [List.map_toArray, List.map_cons, List.map_nil]); first | done | rfl | (simp only [List.length_drop, List.length_take]; rfl)) ?_; (with_reducible refine (casketlaw17_awake.calls k  t451 _ A7.out).mono ?_); rintro e w9 ⟨rfl, hb⟩; refine ⟨_, rfl, ?_⟩; have n0_ := Aside0.mk (below_step (by repeat (first | (with_reducible first | exact HB.out | apply below_alloc | apply pw_below_drewN | apply below_drew1) | exact HB.out)) hb); clear HB; have HB := n0_; clear n0_; (try clear hb); (try clear hb2); (try clear hk); (try clear hi)))
  (try simp only [Act.put, List.setIfInBounds_toArray, List.set_cons_zero, List.set_cons_succ])
  go_cut [44] (fun v44 wc => ∃ (kq : Nat) (x44_7 : Bool), v44 = .bool x44_7 ∧ Aside0 (casketlaw17_AeadTurned.j0 kq l0 l1 l2 l3 a4 a5 t451 x44_7 = some r) ∧ Aside0 (kq ≤ k) ∧ Aside0 (Below w.heap.size w wc))
  case first =>
    have H := HC8.out
    clear HC8
    by_cases c10 : (l0.length : Int) = 32
    · rw [if_pos c10] at H
      have c10b0 : ((l0.length : Int) == 32) = true := beq_iff_eq.mpr c10
      have c10b1 : ((l0.length : Int) != 32) = false := bne_eq_false_iff_eq.mpr c10
      clear c10
      (first | rw [c10b0] | (simp only [i64_w, i32_w]; rw [c10b0]) | skip)
      by_cases c11 : (l1.length : Int) = 12
      · rw [if_pos c11] at H
        have c11b0 : ((l1.length : Int) == 12) = true := beq_iff_eq.mpr c11
        have c11b1 : ((l1.length : Int) != 12) = false := bne_eq_false_iff_eq.mpr c11
        clear c11
        by_cases c12 : (l2.length : Int) > 300
        · rw [if_pos c12] at H
          have c12b0 : decide (300 < (l2.length : Int)) = true := decide_eq_true c12
          have c12b1 : decide (300 < l2.length) = true := decide_eq_true (by omega)
          clear c12
          have H' := Aside0.mk H
          clear H
          go_wp2
          go_meet
          case rel => exact ⟨_, (true), (by first | rfl | (simp; done) | (simp [*]; done)), H', ⟨by first | omega | exact Nat.le_refl _⟩, ⟨by repeat (first | (with_reducible first | exact HB.out | apply below_alloc | apply pw_below_drewN | apply below_drew1) | exact HB.out)⟩⟩
        · rw [if_neg c12] at H
          have c12b0 : decide (300 < (l2.length : Int)) = false := decide_eq_false c12
          have c12b1 : decide (300 < l2.length) = false := decide_eq_false (by omega)
          clear c12
          have H' := Aside0.mk H
          clear H
          go_wp2
          go_meet
          case rel => exact ⟨_, (decide ((l3.length : Int) > 600)), (by first | rfl | (simp; done) | (simp [*]; done)), H', ⟨by first | omega | exact Nat.le_refl _⟩, ⟨by repeat (first | (with_reducible first | exact HB.out | apply below_alloc | apply pw_below_drewN | apply below_drew1) | exact HB.out)⟩⟩
      · rw [if_neg c11] at H
        have c11b0 : ((l1.length : Int) == 12) = false := beq_eq_false_iff_ne.mpr c11
        have c11b1 : ((l1.length : Int) != 12) = true := bne_iff_ne.mpr c11
        have H' := Aside0.mk H
        clear H
        go_wp2
        go_meet
        case rel => exact ⟨_, (true), (by first | rfl | (simp; done) | (simp [*]; done)), H', ⟨by first | omega | exact Nat.le_refl _⟩, ⟨by repeat (first | (with_reducible first | exact HB.out | apply below_alloc | apply pw_below_drewN | apply below_drew1) | exact HB.out)⟩⟩
    · rw [if_neg c10] at H
      have c10b0 : ((l0.length : Int) == 32) = false := beq_eq_false_iff_ne.mpr c10
      have c10b1 : ((l0.length : Int) != 32) = true := bne_iff_ne.mpr c10
      (first | rw [c10b0] | (simp only [i64_w, i32_w]; rw [c10b0]) | skip)
      have H' := Aside0.mk H
      clear H
      go_wp2
      go_meet
      case rel => exact ⟨_, (true), (by first | rfl | (simp; done) | (simp [*]; done)), H', ⟨by first | omega | exact Nat.le_refl _⟩, ⟨by repeat (first | (with_reducible first | exact HB.out | apply below_alloc | apply pw_below_drewN | apply below_drew1) | exact HB.out)⟩⟩
  case rest =>
    clear HC8
    try clear c1
    try clear c2
    try clear p2
    try clear c3
    try clear c10
    try clear c10b0
    try clear c10b1
    try clear c11
    try clear c11b0
    try clear c11b1
    try clear c12
    try clear c12b0
    try clear c12b1
    obtain ⟨kq, x44_7, rfl, HA, HJ7, HB⟩ := hcut
    cases kq with
    | zero => exact absurd HA.out (by simp [casketlaw17_AeadTurned.j0])
    | succ kj7 =>
      have H := HA.out
      clear HA
      simp only [casketlaw17_AeadTurned.j0] at H
      by_cases c13 : x44_7 = true
      · subst c13
        have H1 : (some t451) = some r := by rw [if_pos rfl] at H; exact H
        clear H
        have H := H1
        clear H1
        obtain rfl := Option.some.inj H
        go_wp2
        go_ret
        exact ⟨by first | rfl | (simp [errW_none, errW_some] <;> rfl) | (simp [*, errW_none, errW_some] <;> rfl), by repeat (first | (with_reducible first | exact HB.out | apply below_alloc | apply pw_below_drewN | apply below_drew1) | exact HB.out)⟩
      · replace c13 := Bool.eq_false_iff.mpr c13
        subst c13
        have H1 : ((aead_Seal.f kj7 l0 l1 l2 l3).bind fun bt452 => (if bt452.2 = 0 then (casketlaw17_AeadTurned.j1 kj7 l0 l1 l2 a4 a5 t451 bt452.1 (decide ((bt452.1.length : Int) < 16))) else (casketlaw17_AeadTurned.j1 kj7 l0 l1 l2 a4 a5 t451 bt452.1 true))) = some r := by rw [if_neg (show ¬ (false = true) by decide)] at H; exact H
        clear H
        have H := H1
        clear H1
        replace H := Option.bind_eq_some_iff.mp H
        obtain ⟨⟨t452, t453⟩, A140, H⟩ := H
        replace H : (if t453 = 0 then (casketlaw17_AeadTurned.j1 kj7 l0 l1 l2 a4 a5 t451 t452 (decide ((t452.length : Int) < 16))) else (casketlaw17_AeadTurned.j1 kj7 l0 l1 l2 a4 a5 t451 t452 true)) = some r := H
        have A14 := Aside0.mk A140
        clear A140
        have HC15 := Aside0.mk H
        clear H
        go_upto_region 5 with (first | ((with_reducible refine gate_callee (f := 34) rfl ?_); refine goesL_ (some 51) rfl rfl Try.func34 (by kernel_rfl) rfl #[.slice A0 l0.length c0, .slice A1 l1.length c1, .slice A2 l2.length c2, .slice A3 l3.length c3] rfl (by (try simp only [List.map_toArray, List.map_cons, List.map_nil]); first | done | rfl | (simp only [List.length_drop, List.length_take]; rfl)) ?_; (with_reducible refine (aead_Seal.calls kj7 _ _ l0 _ _ l1 _ _ l2 _ _ l3 t452 t453 _ ?side1 ?side2 ?side3 ?side4 ?side5 ?side6 ?side7 ?side8 A14.out).mono ?_); (case side1 => repeat (first | exact (Kd.C_below HR0.out HB.out) | (with_reducible refine Kd.C_alloc ?_ _) | (with_reducible refine Kd.C_drewN ?_ _) | (with_reducible refine Kd.C_drew ?_))); (case side2 => exact HC0.out); (case side3 => repeat (first | exact (Kd.C_below HR1.out HB.out) | (with_reducible refine Kd.C_alloc ?_ _) | (with_reducible refine Kd.C_drewN ?_ _) | (with_reducible refine Kd.C_drew ?_))); (case side4 => exact HC1.out); (case side5 => repeat (first | exact (Kd.C_below HR2.out HB.out) | (with_reducible refine Kd.C_alloc ?_ _) | (with_reducible refine Kd.C_drewN ?_ _) | (with_reducible refine Kd.C_drew ?_))); (case side6 => exact HC2.out); (case side7 => repeat (first | exact (Kd.C_below HR3.out HB.out) | (with_reducible refine Kd.C_alloc ?_ _) | (with_reducible refine Kd.C_drewN ?_ _) | (with_reducible refine Kd.C_drew ?_))); (case side8 => exact HC3.out); rintro e w16 ⟨v454, rfl, ho0, hb⟩; refine ⟨_, rfl, ?_⟩; have n0_ := Aside0.mk (Kd.R_lower ho0 (below_size (by repeat (first | (with_reducible first | exact HB.out | apply below_alloc | apply pw_below_drewN | apply below_drew1) | exact HB.out)))); have n1_ := Aside0.mk (below_step (by repeat (first | (with_reducible first | exact HB.out | apply below_alloc | apply pw_below_drewN | apply below_drew1) | exact HB.out)) hb); clear HB; have HO455 := n0_; have HB := n1_; clear n0_ n1_; (try clear hb); (try clear hb2); (try clear hk); (try clear hi); (try clear ho0)))
        (try simp only [Act.put, List.setIfInBounds_toArray, List.set_cons_zero, List.set_cons_succ])
        go_cut [60] (fun v60 wc => ∃ (kq : Nat) (x60_14 : Bool), v60 = .bool x60_14 ∧ Aside0 (casketlaw17_AeadTurned.j1 kq l0 l1 l2 a4 a5 t451 t452 x60_14 = some r) ∧ Aside0 (kq ≤ kj7) ∧ Aside0 (Kd.R (Kd.int .u8) 5 wc w.heap.size (fun _ => True) v454 t452) ∧ Aside0 (Below w.heap.size w wc))
        case first =>
          have H := HC15.out
          clear HC15
          by_cases c17 : t453 = 0
          · rw [if_pos c17] at H
            have c17b0 : (t453 == 0) = true := beq_iff_eq.mpr c17
            have c17b1 : (t453 != 0) = false := bne_eq_false_iff_eq.mpr c17
            clear c17
            (first | rw [c17b0] | (simp only [i64_w, i32_w]; rw [c17b0]) | skip)
            have H' := Aside0.mk H
            clear H
            obtain ⟨Ao18, co18, eo18⟩ := Kd.R_slice HO455.out
            subst eo18
            go_wp2
            go_meet
            case rel => exact ⟨_, (decide ((t452.length : Int) < 16)), (by first | rfl | (simp; done) | (simp [*]; done)), H', ⟨by have := HJ7.out; first | omega | exact Nat.le_refl _⟩, ⟨by (with_reducible repeat (first | apply Kd.R_alloc | apply Kd.R_drewN | apply Kd.R_drew)); exact HO455.out⟩, ⟨by repeat (first | (with_reducible first | exact HB.out | apply below_alloc | apply pw_below_drewN | apply below_drew1) | exact HB.out)⟩⟩
          · rw [if_neg c17] at H
            have c17b0 : (t453 == 0) = false := beq_eq_false_iff_ne.mpr c17
            have c17b1 : (t453 != 0) = true := bne_iff_ne.mpr c17
            (first | rw [c17b0] | (simp only [i64_w, i32_w]; rw [c17b0]) | skip)
            have H' := Aside0.mk H
            clear H
            go_wp2
            go_meet
            case rel => exact ⟨_, (true), (by first | rfl | (simp; done) | (simp [*]; done)), H', ⟨by have := HJ7.out; first | omega | exact Nat.le_refl _⟩, ⟨by (with_reducible repeat (first | apply Kd.R_alloc | apply Kd.R_drewN | apply Kd.R_drew)); exact HO455.out⟩, ⟨by repeat (first | (with_reducible first | exact HB.out | apply below_alloc | apply pw_below_drewN | apply below_drew1) | exact HB.out)⟩⟩
        case rest =>
          clear HC15
          try clear c1
          try clear c2
          try clear p2
          try clear c3
          try clear c10
          try clear c10b0
          try clear c10b1
          try clear c11
          try clear c11b0
          try clear c11b1
          try clear c12
          try clear c12b0
          try clear c12b1
          try clear c13
          try clear c17
          try clear c17b0
          try clear c17b1
          try clear c18
          try clear p2
          obtain ⟨kq, x60_14, rfl, HA, HJ14, HO_14, HB⟩ := hcut
          cases kq with
          | zero => exact absurd HA.out (by simp [casketlaw17_AeadTurned.j1])
          | succ kj14 =>
            have H := HA.out
            clear HA
            simp only [casketlaw17_AeadTurned.j1] at H
            by_cases c19 : x60_14 = true
            · subst c19
              have H1 : (some false) = some r := by rw [if_pos rfl] at H; exact H
              clear H
              have H := H1
              clear H1
              obtain rfl := Option.some.inj H
              go_wp2
              go_ret
              exact ⟨by first | rfl | (simp [errW_none, errW_some] <;> rfl) | (simp [*, errW_none, errW_some] <;> rfl), by repeat (first | (with_reducible first | exact HB.out | apply below_alloc | apply pw_below_drewN | apply below_drew1) | exact HB.out)⟩
            · replace c19 := Bool.eq_false_iff.mpr c19
              subst c19
              have H1 : ((some (([] : List Int) : List Int)).bind fun y456 => (if y456.length + t452.length < 140737488355328 then ((some (y456 ++ t452 : List Int)).bind fun y459 => (if (y459.length : Int) = 0 then (none) else (if 0 ≤ (Int.tmod (Go.bits .and .i64 a4 65535) (y459.length : Int)) then (if (Int.tmod (Go.bits .and .i64 a4 65535) (y459.length : Int)) < (y459.length : Int) then ((some (y459.set ((Int.tmod (Go.bits .and .i64 a4 65535) (y459.length : Int)) : Int).toNat (Go.bits .xor .u8 (rd y459 (Int.tmod (Go.bits .and .i64 a4 65535) (y459.length : Int))) a5) : List Int)).bind fun y463 => (if 0 ≤ (wrap64 ((y459.length : Int) - 16)) then (if (wrap64 ((y459.length : Int) - 16)) ≤ (y459.length : Int) then ((casketref17_Tag.f kj14 l0 l1 l2 (y463.take ((wrap64 ((y459.length : Int) - 16)) : Int).toNat)).bind fun t468 => ((casketlaw17_same.f kj14 t468 (y463.drop ((wrap64 ((y459.length : Int) - 16)) : Int).toNat)).bind fun t475 => ((aead_Open.f kj14 l0 l1 l2 y463).bind fun bt476 => ((some (([] : List Int) : List Int)).bind fun y480 => (if y480.length + l2.length < 140737488355328 then ((some (y480 ++ l2 : List Int)).bind fun y483 => (if y483.length < 140737488355328 then ((some (y483 ++ [a5] : List Int)).bind fun y486 => (if (wrap64 ((y459.length : Int) - 16)) ≤ (t452.length : Int) then ((casketref17_Tag.f kj14 l0 l1 y486 (t452.take ((wrap64 ((y459.length : Int) - 16)) : Int).toNat)).bind fun t493 => ((casketlaw17_same.f kj14 t493 (t452.drop ((wrap64 ((y459.length : Int) - 16)) : Int).toNat)).bind fun t500 => ((aead_Open.f kj14 l0 l1 y486 t452).bind fun bt501 => (if t451 = true then (if ((bt476.2 == 0) == t475) = true then (if bt476.2 = 0 then (if ((bt501.2 == 0) == t500) = true then (if bt501.2 = 0 then (some true) else (some (bt501.2 == 5))) else (some false)) else (if bt476.2 = 5 then (if ((bt501.2 == 0) == t500) = true then (if bt501.2 = 0 then (some true) else (some (bt501.2 == 5))) else (some false)) else (some false))) else (some false)) else (some false))))) else (none))) else (none))) else (none)))))) else (none)) else (none))) else (none)) else (none)))) else (none))) = some r := by rw [if_neg (show ¬ (false = true) by decide)] at H; exact H
              clear H
              have H := H1
              clear H1
              obtain ⟨y456, hy456⟩ : ∃ y_ : List Int, y_ = (([] : List Int)) := ⟨_, rfl⟩
              replace H : (if y456.length + t452.length < 140737488355328 then ((some (y456 ++ t452 : List Int)).bind fun y459 => (if (y459.length : Int) = 0 then (none) else (if 0 ≤ (Int.tmod (Go.bits .and .i64 a4 65535) (y459.length : Int)) then (if (Int.tmod (Go.bits .and .i64 a4 65535) (y459.length : Int)) < (y459.length : Int) then ((some (y459.set ((Int.tmod (Go.bits .and .i64 a4 65535) (y459.length : Int)) : Int).toNat (Go.bits .xor .u8 (rd y459 (Int.tmod (Go.bits .and .i64 a4 65535) (y459.length : Int))) a5) : List Int)).bind fun y463 => (if 0 ≤ (wrap64 ((y459.length : Int) - 16)) then (if (wrap64 ((y459.length : Int) - 16)) ≤ (y459.length : Int) then ((casketref17_Tag.f kj14 l0 l1 l2 (y463.take ((wrap64 ((y459.length : Int) - 16)) : Int).toNat)).bind fun t468 => ((casketlaw17_same.f kj14 t468 (y463.drop ((wrap64 ((y459.length : Int) - 16)) : Int).toNat)).bind fun t475 => ((aead_Open.f kj14 l0 l1 l2 y463).bind fun bt476 => ((some (([] : List Int) : List Int)).bind fun y480 => (if y480.length + l2.length < 140737488355328 then ((some (y480 ++ l2 : List Int)).bind fun y483 => (if y483.length < 140737488355328 then ((some (y483 ++ [a5] : List Int)).bind fun y486 => (if (wrap64 ((y459.length : Int) - 16)) ≤ (t452.length : Int) then ((casketref17_Tag.f kj14 l0 l1 y486 (t452.take ((wrap64 ((y459.length : Int) - 16)) : Int).toNat)).bind fun t493 => ((casketlaw17_same.f kj14 t493 (t452.drop ((wrap64 ((y459.length : Int) - 16)) : Int).toNat)).bind fun t500 => ((aead_Open.f kj14 l0 l1 y486 t452).bind fun bt501 => (if t451 = true then (if ((bt476.2 == 0) == t475) = true then (if bt476.2 = 0 then (if ((bt501.2 == 0) == t500) = true then (if bt501.2 = 0 then (some true) else (some (bt501.2 == 5))) else (some false)) else (if bt476.2 = 5 then (if ((bt501.2 == 0) == t500) = true then (if bt501.2 = 0 then (some true) else (some (bt501.2 == 5))) else (some false)) else (some false))) else (some false)) else (some false))))) else (none))) else (none))) else (none)))))) else (none)) else (none))) else (none)) else (none)))) else (none)) = some r := by first | (rw [hy456]; with_reducible exact H) | (have H2_ := (Option.bind_some _ _).symm.trans H; rw [hy456]; with_reducible exact H2_) | (have H2_ := (Option.bind_some _ _).symm.trans H; with_reducible exact H2_) | with_reducible exact H | (rw [hy456]; exact H) | exact H
              have Ny456 := Aside0.mk hy456
              clear hy456
              by_cases c20 : y456.length + t452.length < 140737488355328
              · rw [if_pos c20] at H
                have LMc20 := Aside0.mk c20
                clear c20
                obtain ⟨y459, hy459⟩ : ∃ y_ : List Int, y_ = (y456 ++ t452) := ⟨_, rfl⟩
                replace H : (if (y459.length : Int) = 0 then (none) else (if 0 ≤ (Int.tmod (Go.bits .and .i64 a4 65535) (y459.length : Int)) then (if (Int.tmod (Go.bits .and .i64 a4 65535) (y459.length : Int)) < (y459.length : Int) then ((some (y459.set ((Int.tmod (Go.bits .and .i64 a4 65535) (y459.length : Int)) : Int).toNat (Go.bits .xor .u8 (rd y459 (Int.tmod (Go.bits .and .i64 a4 65535) (y459.length : Int))) a5) : List Int)).bind fun y463 => (if 0 ≤ (wrap64 ((y459.length : Int) - 16)) then (if (wrap64 ((y459.length : Int) - 16)) ≤ (y459.length : Int) then ((casketref17_Tag.f kj14 l0 l1 l2 (y463.take ((wrap64 ((y459.length : Int) - 16)) : Int).toNat)).bind fun t468 => ((casketlaw17_same.f kj14 t468 (y463.drop ((wrap64 ((y459.length : Int) - 16)) : Int).toNat)).bind fun t475 => ((aead_Open.f kj14 l0 l1 l2 y463).bind fun bt476 => ((some (([] : List Int) : List Int)).bind fun y480 => (if y480.length + l2.length < 140737488355328 then ((some (y480 ++ l2 : List Int)).bind fun y483 => (if y483.length < 140737488355328 then ((some (y483 ++ [a5] : List Int)).bind fun y486 => (if (wrap64 ((y459.length : Int) - 16)) ≤ (t452.length : Int) then ((casketref17_Tag.f kj14 l0 l1 y486 (t452.take ((wrap64 ((y459.length : Int) - 16)) : Int).toNat)).bind fun t493 => ((casketlaw17_same.f kj14 t493 (t452.drop ((wrap64 ((y459.length : Int) - 16)) : Int).toNat)).bind fun t500 => ((aead_Open.f kj14 l0 l1 y486 t452).bind fun bt501 => (if t451 = true then (if ((bt476.2 == 0) == t475) = true then (if bt476.2 = 0 then (if ((bt501.2 == 0) == t500) = true then (if bt501.2 = 0 then (some true) else (some (bt501.2 == 5))) else (some false)) else (if bt476.2 = 5 then (if ((bt501.2 == 0) == t500) = true then (if bt501.2 = 0 then (some true) else (some (bt501.2 == 5))) else (some false)) else (some false))) else (some false)) else (some false))))) else (none))) else (none))) else (none)))))) else (none)) else (none))) else (none)) else (none))) = some r := by first | (rw [hy459]; with_reducible exact H) | (have H2_ := (Option.bind_some _ _).symm.trans H; rw [hy459]; with_reducible exact H2_) | (have H2_ := (Option.bind_some _ _).symm.trans H; with_reducible exact H2_) | with_reducible exact H | (rw [hy459]; exact H) | exact H
                have Ny459 := Aside0.mk hy459
                clear hy459
                by_cases c21 : (y459.length : Int) = 0
                · rw [if_pos c21] at H
                  exact absurd H (by simp)
                · rw [if_neg c21] at H
                  have c21b0 : ((y459.length : Int) == 0) = false := beq_eq_false_iff_ne.mpr c21
                  have c21b1 : ((y459.length : Int) != 0) = true := bne_iff_ne.mpr c21
                  have c21b2 : ¬ (y459 = []) := fun h_ => c21 (by rw [h_]; rfl)
                  obtain ⟨ji22, hji22⟩ : ∃ j_ : Int, (Int.tmod (Go.bits .and .i64 a4 65535) (y459.length : Int)) = j_ := ⟨_, rfl⟩
                  replace H : (if 0 ≤ (ji22) then (if (ji22) < (y459.length : Int) then ((some (y459.set ((ji22) : Int).toNat (Go.bits .xor .u8 (rd y459 (ji22)) a5) : List Int)).bind fun y463 => (if 0 ≤ (wrap64 ((y459.length : Int) - 16)) then (if (wrap64 ((y459.length : Int) - 16)) ≤ (y459.length : Int) then ((casketref17_Tag.f kj14 l0 l1 l2 (y463.take ((wrap64 ((y459.length : Int) - 16)) : Int).toNat)).bind fun t468 => ((casketlaw17_same.f kj14 t468 (y463.drop ((wrap64 ((y459.length : Int) - 16)) : Int).toNat)).bind fun t475 => ((aead_Open.f kj14 l0 l1 l2 y463).bind fun bt476 => ((some (([] : List Int) : List Int)).bind fun y480 => (if y480.length + l2.length < 140737488355328 then ((some (y480 ++ l2 : List Int)).bind fun y483 => (if y483.length < 140737488355328 then ((some (y483 ++ [a5] : List Int)).bind fun y486 => (if (wrap64 ((y459.length : Int) - 16)) ≤ (t452.length : Int) then ((casketref17_Tag.f kj14 l0 l1 y486 (t452.take ((wrap64 ((y459.length : Int) - 16)) : Int).toNat)).bind fun t493 => ((casketlaw17_same.f kj14 t493 (t452.drop ((wrap64 ((y459.length : Int) - 16)) : Int).toNat)).bind fun t500 => ((aead_Open.f kj14 l0 l1 y486 t452).bind fun bt501 => (if t451 = true then (if ((bt476.2 == 0) == t475) = true then (if bt476.2 = 0 then (if ((bt501.2 == 0) == t500) = true then (if bt501.2 = 0 then (some true) else (some (bt501.2 == 5))) else (some false)) else (if bt476.2 = 5 then (if ((bt501.2 == 0) == t500) = true then (if bt501.2 = 0 then (some true) else (some (bt501.2 == 5))) else (some false)) else (some false))) else (some false)) else (some false))))) else (none))) else (none))) else (none)))))) else (none)) else (none))) else (none)) else (none)) = some r := by first | (rw [hji22] at H; exact H) | (simp only [hji22] at H ⊢; exact H)
                  by_cases c23 : 0 ≤ (ji22)
                  · rw [if_pos c23] at H
                    have c23b0 : decide (0 ≤ (ji22)) = true := decide_eq_true c23
                    clear c23
                    by_cases c24 : (ji22) < (y459.length : Int)
                    · rw [if_pos c24] at H
                      have c24b0 : decide ((ji22) < (y459.length : Int)) = true := decide_eq_true c24
                      clear c24
                      obtain ⟨y463, hy463⟩ : ∃ y_ : List Int, y_ = (y459.set ((ji22) : Int).toNat (Go.bits .xor .u8 (rd y459 (ji22)) a5)) := ⟨_, rfl⟩
                      replace H : (if 0 ≤ (wrap64 ((y459.length : Int) - 16)) then (if (wrap64 ((y459.length : Int) - 16)) ≤ (y459.length : Int) then ((casketref17_Tag.f kj14 l0 l1 l2 (y463.take ((wrap64 ((y459.length : Int) - 16)) : Int).toNat)).bind fun t468 => ((casketlaw17_same.f kj14 t468 (y463.drop ((wrap64 ((y459.length : Int) - 16)) : Int).toNat)).bind fun t475 => ((aead_Open.f kj14 l0 l1 l2 y463).bind fun bt476 => ((some (([] : List Int) : List Int)).bind fun y480 => (if y480.length + l2.length < 140737488355328 then ((some (y480 ++ l2 : List Int)).bind fun y483 => (if y483.length < 140737488355328 then ((some (y483 ++ [a5] : List Int)).bind fun y486 => (if (wrap64 ((y459.length : Int) - 16)) ≤ (t452.length : Int) then ((casketref17_Tag.f kj14 l0 l1 y486 (t452.take ((wrap64 ((y459.length : Int) - 16)) : Int).toNat)).bind fun t493 => ((casketlaw17_same.f kj14 t493 (t452.drop ((wrap64 ((y459.length : Int) - 16)) : Int).toNat)).bind fun t500 => ((aead_Open.f kj14 l0 l1 y486 t452).bind fun bt501 => (if t451 = true then (if ((bt476.2 == 0) == t475) = true then (if bt476.2 = 0 then (if ((bt501.2 == 0) == t500) = true then (if bt501.2 = 0 then (some true) else (some (bt501.2 == 5))) else (some false)) else (if bt476.2 = 5 then (if ((bt501.2 == 0) == t500) = true then (if bt501.2 = 0 then (some true) else (some (bt501.2 == 5))) else (some false)) else (some false))) else (some false)) else (some false))))) else (none))) else (none))) else (none)))))) else (none)) else (none)) = some r := by first | (rw [hy463]; with_reducible exact H) | (have H2_ := (Option.bind_some _ _).symm.trans H; rw [hy463]; with_reducible exact H2_) | (have H2_ := (Option.bind_some _ _).symm.trans H; with_reducible exact H2_) | with_reducible exact H | (rw [hy463]; exact H) | exact H
                      have Ny463 := Aside0.mk hy463
                      clear hy463
                      obtain ⟨ji26, hji26⟩ : ∃ j_ : Int, (wrap64 ((y459.length : Int) - 16)) = j_ := ⟨_, rfl⟩
                      replace H : (if 0 ≤ (ji26) then (if (ji26) ≤ (y459.length : Int) then ((casketref17_Tag.f kj14 l0 l1 l2 (y463.take ((ji26) : Int).toNat)).bind fun t468 => ((casketlaw17_same.f kj14 t468 (y463.drop ((ji26) : Int).toNat)).bind fun t475 => ((aead_Open.f kj14 l0 l1 l2 y463).bind fun bt476 => ((some (([] : List Int) : List Int)).bind fun y480 => (if y480.length + l2.length < 140737488355328 then ((some (y480 ++ l2 : List Int)).bind fun y483 => (if y483.length < 140737488355328 then ((some (y483 ++ [a5] : List Int)).bind fun y486 => (if (ji26) ≤ (t452.length : Int) then ((casketref17_Tag.f kj14 l0 l1 y486 (t452.take ((ji26) : Int).toNat)).bind fun t493 => ((casketlaw17_same.f kj14 t493 (t452.drop ((ji26) : Int).toNat)).bind fun t500 => ((aead_Open.f kj14 l0 l1 y486 t452).bind fun bt501 => (if t451 = true then (if ((bt476.2 == 0) == t475) = true then (if bt476.2 = 0 then (if ((bt501.2 == 0) == t500) = true then (if bt501.2 = 0 then (some true) else (some (bt501.2 == 5))) else (some false)) else (if bt476.2 = 5 then (if ((bt501.2 == 0) == t500) = true then (if bt501.2 = 0 then (some true) else (some (bt501.2 == 5))) else (some false)) else (some false))) else (some false)) else (some false))))) else (none))) else (none))) else (none)))))) else (none)) else (none)) = some r := by first | (rw [hji26] at H; exact H) | (simp only [hji26] at H ⊢; exact H)
                      have hji26w : (IntKind.i64.wrap ((y459.length : Int) - 16)) = ji26 := (i64_w _).trans hji26
                      by_cases c27 : 0 ≤ (ji26)
                      · rw [if_pos c27] at H
                        have c27b0 := eq_true c27
                        have c27b1 : decide (0 ≤ (ji26)) = true := decide_eq_true c27
                        clear c27
                        by_cases c28 : (ji26) ≤ (y459.length : Int)
                        · rw [if_pos c28] at H
                          have c28b0 := eq_true c28
                          have c28b1 : decide ((ji26) ≤ (y459.length : Int)) = true := decide_eq_true c28
                          clear c28
                          obtain ⟨y464, hy464⟩ : ∃ y_ : List Int, y_ = (y463.take ((ji26) : Int).toNat) := ⟨_, rfl⟩
                          replace H : ((casketref17_Tag.f kj14 l0 l1 l2 y464).bind fun t468 => ((casketlaw17_same.f kj14 t468 (y463.drop ((ji26) : Int).toNat)).bind fun t475 => ((aead_Open.f kj14 l0 l1 l2 y463).bind fun bt476 => ((some (([] : List Int) : List Int)).bind fun y480 => (if y480.length + l2.length < 140737488355328 then ((some (y480 ++ l2 : List Int)).bind fun y483 => (if y483.length < 140737488355328 then ((some (y483 ++ [a5] : List Int)).bind fun y486 => (if (ji26) ≤ (t452.length : Int) then ((casketref17_Tag.f kj14 l0 l1 y486 (t452.take ((ji26) : Int).toNat)).bind fun t493 => ((casketlaw17_same.f kj14 t493 (t452.drop ((ji26) : Int).toNat)).bind fun t500 => ((aead_Open.f kj14 l0 l1 y486 t452).bind fun bt501 => (if t451 = true then (if ((bt476.2 == 0) == t475) = true then (if bt476.2 = 0 then (if ((bt501.2 == 0) == t500) = true then (if bt501.2 = 0 then (some true) else (some (bt501.2 == 5))) else (some false)) else (if bt476.2 = 5 then (if ((bt501.2 == 0) == t500) = true then (if bt501.2 = 0 then (some true) else (some (bt501.2 == 5))) else (some false)) else (some false))) else (some false)) else (some false))))) else (none))) else (none))) else (none)))))) = some r := by first | (rw [hy464]; with_reducible exact H) | (have H2_ := (Option.bind_some _ _).symm.trans H; rw [hy464]; with_reducible exact H2_) | (have H2_ := (Option.bind_some _ _).symm.trans H; with_reducible exact H2_) | with_reducible exact H | (rw [hy464]; exact H) | exact H
                          have Ny464 := Aside0.mk hy464
                          clear hy464
                          replace H := Option.bind_eq_some_iff.mp H
                          obtain ⟨t468, A290, H⟩ := H
                          replace H : ((casketlaw17_same.f kj14 t468 (y463.drop ((ji26) : Int).toNat)).bind fun t475 => ((aead_Open.f kj14 l0 l1 l2 y463).bind fun bt476 => ((some (([] : List Int) : List Int)).bind fun y480 => (if y480.length + l2.length < 140737488355328 then ((some (y480 ++ l2 : List Int)).bind fun y483 => (if y483.length < 140737488355328 then ((some (y483 ++ [a5] : List Int)).bind fun y486 => (if (ji26) ≤ (t452.length : Int) then ((casketref17_Tag.f kj14 l0 l1 y486 (t452.take ((ji26) : Int).toNat)).bind fun t493 => ((casketlaw17_same.f kj14 t493 (t452.drop ((ji26) : Int).toNat)).bind fun t500 => ((aead_Open.f kj14 l0 l1 y486 t452).bind fun bt501 => (if t451 = true then (if ((bt476.2 == 0) == t475) = true then (if bt476.2 = 0 then (if ((bt501.2 == 0) == t500) = true then (if bt501.2 = 0 then (some true) else (some (bt501.2 == 5))) else (some false)) else (if bt476.2 = 5 then (if ((bt501.2 == 0) == t500) = true then (if bt501.2 = 0 then (some true) else (some (bt501.2 == 5))) else (some false)) else (some false))) else (some false)) else (some false))))) else (none))) else (none))) else (none))))) = some r := H
                          have A29 := Aside0.mk A290
                          clear A290
                          have c30b0 := eq_true (of_decide_eq_true (by first | (with_reducible assumption) | assumption) : 0 ≤ (ji26))
                          have c31b0 := eq_true (of_decide_eq_true (by first | (with_reducible assumption) | assumption) : (ji26) ≤ (y459.length : Int))
                          obtain ⟨y471, hy471⟩ : ∃ y_ : List Int, y_ = (y463.drop ((ji26) : Int).toNat) := ⟨_, rfl⟩
                          replace H : ((casketlaw17_same.f kj14 t468 y471).bind fun t475 => ((aead_Open.f kj14 l0 l1 l2 y463).bind fun bt476 => ((some (([] : List Int) : List Int)).bind fun y480 => (if y480.length + l2.length < 140737488355328 then ((some (y480 ++ l2 : List Int)).bind fun y483 => (if y483.length < 140737488355328 then ((some (y483 ++ [a5] : List Int)).bind fun y486 => (if (ji26) ≤ (t452.length : Int) then ((casketref17_Tag.f kj14 l0 l1 y486 (t452.take ((ji26) : Int).toNat)).bind fun t493 => ((casketlaw17_same.f kj14 t493 (t452.drop ((ji26) : Int).toNat)).bind fun t500 => ((aead_Open.f kj14 l0 l1 y486 t452).bind fun bt501 => (if t451 = true then (if ((bt476.2 == 0) == t475) = true then (if bt476.2 = 0 then (if ((bt501.2 == 0) == t500) = true then (if bt501.2 = 0 then (some true) else (some (bt501.2 == 5))) else (some false)) else (if bt476.2 = 5 then (if ((bt501.2 == 0) == t500) = true then (if bt501.2 = 0 then (some true) else (some (bt501.2 == 5))) else (some false)) else (some false))) else (some false)) else (some false))))) else (none))) else (none))) else (none))))) = some r := by first | (rw [hy471]; with_reducible exact H) | (have H2_ := (Option.bind_some _ _).symm.trans H; rw [hy471]; with_reducible exact H2_) | (have H2_ := (Option.bind_some _ _).symm.trans H; with_reducible exact H2_) | with_reducible exact H | (rw [hy471]; exact H) | exact H
                          have Ny471 := Aside0.mk hy471
                          clear hy471
                          replace H := Option.bind_eq_some_iff.mp H
                          obtain ⟨t475, A320, H⟩ := H
                          replace H : ((aead_Open.f kj14 l0 l1 l2 y463).bind fun bt476 => ((some (([] : List Int) : List Int)).bind fun y480 => (if y480.length + l2.length < 140737488355328 then ((some (y480 ++ l2 : List Int)).bind fun y483 => (if y483.length < 140737488355328 then ((some (y483 ++ [a5] : List Int)).bind fun y486 => (if (ji26) ≤ (t452.length : Int) then ((casketref17_Tag.f kj14 l0 l1 y486 (t452.take ((ji26) : Int).toNat)).bind fun t493 => ((casketlaw17_same.f kj14 t493 (t452.drop ((ji26) : Int).toNat)).bind fun t500 => ((aead_Open.f kj14 l0 l1 y486 t452).bind fun bt501 => (if t451 = true then (if ((bt476.2 == 0) == t475) = true then (if bt476.2 = 0 then (if ((bt501.2 == 0) == t500) = true then (if bt501.2 = 0 then (some true) else (some (bt501.2 == 5))) else (some false)) else (if bt476.2 = 5 then (if ((bt501.2 == 0) == t500) = true then (if bt501.2 = 0 then (some true) else (some (bt501.2 == 5))) else (some false)) else (some false))) else (some false)) else (some false))))) else (none))) else (none))) else (none)))) = some r := H
                          have A32 := Aside0.mk A320
                          clear A320
                          replace H := Option.bind_eq_some_iff.mp H
                          obtain ⟨⟨t476, t477⟩, A330, H⟩ := H
                          replace H : ((some (([] : List Int) : List Int)).bind fun y480 => (if y480.length + l2.length < 140737488355328 then ((some (y480 ++ l2 : List Int)).bind fun y483 => (if y483.length < 140737488355328 then ((some (y483 ++ [a5] : List Int)).bind fun y486 => (if (ji26) ≤ (t452.length : Int) then ((casketref17_Tag.f kj14 l0 l1 y486 (t452.take ((ji26) : Int).toNat)).bind fun t493 => ((casketlaw17_same.f kj14 t493 (t452.drop ((ji26) : Int).toNat)).bind fun t500 => ((aead_Open.f kj14 l0 l1 y486 t452).bind fun bt501 => (if t451 = true then (if ((t477 == 0) == t475) = true then (if t477 = 0 then (if ((bt501.2 == 0) == t500) = true then (if bt501.2 = 0 then (some true) else (some (bt501.2 == 5))) else (some false)) else (if t477 = 5 then (if ((bt501.2 == 0) == t500) = true then (if bt501.2 = 0 then (some true) else (some (bt501.2 == 5))) else (some false)) else (some false))) else (some false)) else (some false))))) else (none))) else (none))) else (none))) = some r := H
                          have A33 := Aside0.mk A330
                          clear A330
                          obtain ⟨y480, hy480⟩ : ∃ y_ : List Int, y_ = (([] : List Int)) := ⟨_, rfl⟩
                          replace H : (if y480.length + l2.length < 140737488355328 then ((some (y480 ++ l2 : List Int)).bind fun y483 => (if y483.length < 140737488355328 then ((some (y483 ++ [a5] : List Int)).bind fun y486 => (if (ji26) ≤ (t452.length : Int) then ((casketref17_Tag.f kj14 l0 l1 y486 (t452.take ((ji26) : Int).toNat)).bind fun t493 => ((casketlaw17_same.f kj14 t493 (t452.drop ((ji26) : Int).toNat)).bind fun t500 => ((aead_Open.f kj14 l0 l1 y486 t452).bind fun bt501 => (if t451 = true then (if ((t477 == 0) == t475) = true then (if t477 = 0 then (if ((bt501.2 == 0) == t500) = true then (if bt501.2 = 0 then (some true) else (some (bt501.2 == 5))) else (some false)) else (if t477 = 5 then (if ((bt501.2 == 0) == t500) = true then (if bt501.2 = 0 then (some true) else (some (bt501.2 == 5))) else (some false)) else (some false))) else (some false)) else (some false))))) else (none))) else (none))) else (none)) = some r := by first | (rw [hy480]; with_reducible exact H) | (have H2_ := (Option.bind_some _ _).symm.trans H; rw [hy480]; with_reducible exact H2_) | (have H2_ := (Option.bind_some _ _).symm.trans H; with_reducible exact H2_) | with_reducible exact H | (rw [hy480]; exact H) | exact H
                          have Ny480 := Aside0.mk hy480
                          clear hy480
                          by_cases c34 : y480.length + l2.length < 140737488355328
                          · rw [if_pos c34] at H
                            have LMc34 := Aside0.mk c34
                            clear c34
                            obtain ⟨y483, hy483⟩ : ∃ y_ : List Int, y_ = (y480 ++ l2) := ⟨_, rfl⟩
                            replace H : (if y483.length < 140737488355328 then ((some (y483 ++ [a5] : List Int)).bind fun y486 => (if (ji26) ≤ (t452.length : Int) then ((casketref17_Tag.f kj14 l0 l1 y486 (t452.take ((ji26) : Int).toNat)).bind fun t493 => ((casketlaw17_same.f kj14 t493 (t452.drop ((ji26) : Int).toNat)).bind fun t500 => ((aead_Open.f kj14 l0 l1 y486 t452).bind fun bt501 => (if t451 = true then (if ((t477 == 0) == t475) = true then (if t477 = 0 then (if ((bt501.2 == 0) == t500) = true then (if bt501.2 = 0 then (some true) else (some (bt501.2 == 5))) else (some false)) else (if t477 = 5 then (if ((bt501.2 == 0) == t500) = true then (if bt501.2 = 0 then (some true) else (some (bt501.2 == 5))) else (some false)) else (some false))) else (some false)) else (some false))))) else (none))) else (none)) = some r := by first | (rw [hy483]; with_reducible exact H) | (have H2_ := (Option.bind_some _ _).symm.trans H; rw [hy483]; with_reducible exact H2_) | (have H2_ := (Option.bind_some _ _).symm.trans H; with_reducible exact H2_) | with_reducible exact H | (rw [hy483]; exact H) | exact H
                            have Ny483 := Aside0.mk hy483
                            clear hy483
                            by_cases c35 : y483.length < 140737488355328
                            · rw [if_pos c35] at H
                              have LMc35 := Aside0.mk c35
                              clear c35
                              obtain ⟨y486, hy486⟩ : ∃ y_ : List Int, y_ = (y483 ++ [a5]) := ⟨_, rfl⟩
                              replace H : (if (ji26) ≤ (t452.length : Int) then ((casketref17_Tag.f kj14 l0 l1 y486 (t452.take ((ji26) : Int).toNat)).bind fun t493 => ((casketlaw17_same.f kj14 t493 (t452.drop ((ji26) : Int).toNat)).bind fun t500 => ((aead_Open.f kj14 l0 l1 y486 t452).bind fun bt501 => (if t451 = true then (if ((t477 == 0) == t475) = true then (if t477 = 0 then (if ((bt501.2 == 0) == t500) = true then (if bt501.2 = 0 then (some true) else (some (bt501.2 == 5))) else (some false)) else (if t477 = 5 then (if ((bt501.2 == 0) == t500) = true then (if bt501.2 = 0 then (some true) else (some (bt501.2 == 5))) else (some false)) else (some false))) else (some false)) else (some false))))) else (none)) = some r := by first | (rw [hy486]; with_reducible exact H) | (have H2_ := (Option.bind_some _ _).symm.trans H; rw [hy486]; with_reducible exact H2_) | (have H2_ := (Option.bind_some _ _).symm.trans H; with_reducible exact H2_) | with_reducible exact H | (rw [hy486]; exact H) | exact H
                              have Ny486 := Aside0.mk hy486
                              clear hy486
                              have c36b0 := eq_true (of_decide_eq_true (by first | (with_reducible assumption) | assumption) : 0 ≤ (ji26))
                              by_cases c37 : (ji26) ≤ (t452.length : Int)
                              · rw [if_pos c37] at H
                                have c37b0 := eq_true c37
                                have c37b1 : decide ((ji26) ≤ (t452.length : Int)) = true := decide_eq_true c37
                                clear c37
                                obtain ⟨y489, hy489⟩ : ∃ y_ : List Int, y_ = (t452.take ((ji26) : Int).toNat) := ⟨_, rfl⟩
                                replace H : ((casketref17_Tag.f kj14 l0 l1 y486 y489).bind fun t493 => ((casketlaw17_same.f kj14 t493 (t452.drop ((ji26) : Int).toNat)).bind fun t500 => ((aead_Open.f kj14 l0 l1 y486 t452).bind fun bt501 => (if t451 = true then (if ((t477 == 0) == t475) = true then (if t477 = 0 then (if ((bt501.2 == 0) == t500) = true then (if bt501.2 = 0 then (some true) else (some (bt501.2 == 5))) else (some false)) else (if t477 = 5 then (if ((bt501.2 == 0) == t500) = true then (if bt501.2 = 0 then (some true) else (some (bt501.2 == 5))) else (some false)) else (some false))) else (some false)) else (some false))))) = some r := by first | (rw [hy489]; with_reducible exact H) | (have H2_ := (Option.bind_some _ _).symm.trans H; rw [hy489]; with_reducible exact H2_) | (have H2_ := (Option.bind_some _ _).symm.trans H; with_reducible exact H2_) | with_reducible exact H | (rw [hy489]; exact H) | exact H
                                have Ny489 := Aside0.mk hy489
                                clear hy489
                                replace H := Option.bind_eq_some_iff.mp H
                                obtain ⟨t493, A380, H⟩ := H
                                replace H : ((casketlaw17_same.f kj14 t493 (t452.drop ((ji26) : Int).toNat)).bind fun t500 => ((aead_Open.f kj14 l0 l1 y486 t452).bind fun bt501 => (if t451 = true then (if ((t477 == 0) == t475) = true then (if t477 = 0 then (if ((bt501.2 == 0) == t500) = true then (if bt501.2 = 0 then (some true) else (some (bt501.2 == 5))) else (some false)) else (if t477 = 5 then (if ((bt501.2 == 0) == t500) = true then (if bt501.2 = 0 then (some true) else (some (bt501.2 == 5))) else (some false)) else (some false))) else (some false)) else (some false)))) = some r := H
                                have A38 := Aside0.mk A380
                                clear A380
                                have c39b0 := eq_true (of_decide_eq_true (by first | (with_reducible assumption) | assumption) : 0 ≤ (ji26))
                                have c40b0 := eq_true (of_decide_eq_true (by first | (with_reducible assumption) | assumption) : (ji26) ≤ (t452.length : Int))
                                obtain ⟨y496, hy496⟩ : ∃ y_ : List Int, y_ = (t452.drop ((ji26) : Int).toNat) := ⟨_, rfl⟩
                                replace H : ((casketlaw17_same.f kj14 t493 y496).bind fun t500 => ((aead_Open.f kj14 l0 l1 y486 t452).bind fun bt501 => (if t451 = true then (if ((t477 == 0) == t475) = true then (if t477 = 0 then (if ((bt501.2 == 0) == t500) = true then (if bt501.2 = 0 then (some true) else (some (bt501.2 == 5))) else (some false)) else (if t477 = 5 then (if ((bt501.2 == 0) == t500) = true then (if bt501.2 = 0 then (some true) else (some (bt501.2 == 5))) else (some false)) else (some false))) else (some false)) else (some false)))) = some r := by first | (rw [hy496]; with_reducible exact H) | (have H2_ := (Option.bind_some _ _).symm.trans H; rw [hy496]; with_reducible exact H2_) | (have H2_ := (Option.bind_some _ _).symm.trans H; with_reducible exact H2_) | with_reducible exact H | (rw [hy496]; exact H) | exact H
                                have Ny496 := Aside0.mk hy496
                                clear hy496
                                replace H := Option.bind_eq_some_iff.mp H
                                obtain ⟨t500, A410, H⟩ := H
                                replace H : ((aead_Open.f kj14 l0 l1 y486 t452).bind fun bt501 => (if t451 = true then (if ((t477 == 0) == t475) = true then (if t477 = 0 then (if ((bt501.2 == 0) == t500) = true then (if bt501.2 = 0 then (some true) else (some (bt501.2 == 5))) else (some false)) else (if t477 = 5 then (if ((bt501.2 == 0) == t500) = true then (if bt501.2 = 0 then (some true) else (some (bt501.2 == 5))) else (some false)) else (some false))) else (some false)) else (some false))) = some r := H
                                have A41 := Aside0.mk A410
                                clear A410
                                replace H := Option.bind_eq_some_iff.mp H
                                obtain ⟨⟨t501, t502⟩, A420, H⟩ := H
                                replace H : (if t451 = true then (if ((t477 == 0) == t475) = true then (if t477 = 0 then (if ((t502 == 0) == t500) = true then (if t502 = 0 then (some true) else (some (t502 == 5))) else (some false)) else (if t477 = 5 then (if ((t502 == 0) == t500) = true then (if t502 = 0 then (some true) else (some (t502 == 5))) else (some false)) else (some false))) else (some false)) else (some false)) = some r := H
                                have A42 := Aside0.mk A420
                                clear A420
                                have HZ := Aside0.mk H
                                clear H
                                try go_wp2_with (first | ((with_reducible refine gate_dst (N := 61) rfl ?_); (try (refine gate_guard (by rfl) ?_; dsimp only)); refine Kd.R_lit (Kd.int .u8) _ 5 ?hg (N := 61) ?hd (xs := ([] : List Int)) (inner := []) (ok := fun _ => True) (okp := fun _ => True) ?hr ?hp (fun _ hk => hk) trivial (Below.refl _ _) (Nat.le_refl _) (by simp) ?_; (case hd => rfl); (case hg => rfl); (case hr => first | (go_simp; done) | (go_simp; rfl)); (case hp => exact (Reps.none _ _)); intro v457 w48 ho49 hb hg_ hnew_; clear hg_ hnew_; (first | rw [← Ny456.out] at ho49 | (simp only [Int.reduceToNat] at ho49; rw [← Ny456.out] at ho49)); have n0_ := Aside0.mk (Kd.R_elder' (by (with_reducible repeat (first | apply Kd.R_alloc | apply Kd.R_drewN | apply Kd.R_drew)); exact HO_14.out) (Kd.R_base ho49) hb); have n1_ := Aside0.mk (Kd.R_lower (Kd.R_new' ho49 (Kd.R_lt (by (with_reducible repeat (first | apply Kd.R_alloc | apply Kd.R_drewN | apply Kd.R_drew)); exact HO_14.out))) (below_size (by repeat (first | (with_reducible first | exact HB.out | apply below_alloc | apply pw_below_drewN | apply below_drew1) | exact HB.out)))); have n2_ := Aside0.mk (below_step (by repeat (first | (with_reducible first | exact HB.out | apply below_alloc | apply pw_below_drewN | apply below_drew1) | exact HB.out)) hb); clear HO_14; clear HB; have HO_14 := n0_; have HO458 := n1_; have HB := n2_; clear n0_ n1_ n2_; clear hb ho49; obtain ⟨Ao51, co51, eo51⟩ := Kd.R_slice HO_14.out; subst eo51) | ((with_reducible refine gate_builtin (b := .append) (xs := #[.tmp 61, .tmp 62]) rfl ?_); (try (refine gate_guard (by rfl) ?_; dsimp only)); at_builtin; refine Kd.R_append_rows (Kd.int .u8) (w0 := w) w.heap.size rfl (.tmp 61) (.tmp 62) 28 5 (.int .u8 0) 1 rfl Try.underlying28 info5 rfl (by decide) (by omega) v457 y456 t452 _ _ _ (fun k_ => some k_ ≠ (.slice Ao51 t452.length co51 : Value).ownBlock) (fun _ => False) rfl rfl ?aO ?aR (fun _ _ h => h) (fun _ h => h.elim) ?aF ?aB ?aS ?aL ?_; (case aR => repeat (first | exact (Kd.R_reads' HO_14.out).2.2 | (with_reducible refine Kd.C_alloc ?_ _) | (with_reducible refine Kd.C_drewN ?_ _) | (with_reducible refine Kd.C_drew ?_))); (case aB => exact (by repeat (first | (with_reducible first | exact HB.out | apply below_alloc | apply pw_below_drewN | apply below_drew1) | exact HB.out))); (case aF => exact (fun k_ hk => Kd.fresh' (Kd.R_lt (by (with_reducible repeat (first | apply Kd.R_alloc | apply Kd.R_drewN | apply Kd.R_drew)); exact HO_14.out)) k_ hk)); (case aO => exact (by (with_reducible repeat (first | apply Kd.R_alloc | apply Kd.R_drewN | apply Kd.R_drew)); exact Kd.R_mono HO458.out (fun _ hk => hk.2))); (case aS => exact (below_size (by repeat (first | (with_reducible first | exact HB.out | apply below_alloc | apply pw_below_drewN | apply below_drew1) | exact HB.out)))); (case aL => have := LMc20.out; omega); intro v460 w50 ho hb hg hat; rw [← Ny459.out] at ho; have n0_ := Aside0.mk (Kd.R_after (ok := (fun _ => True)) (by (with_reducible repeat (first | apply Kd.R_alloc | apply Kd.R_drewN | apply Kd.R_drew)); exact HO_14.out) hg hat); have n1_ := Aside0.mk (hb); have n2_ := Aside0.mk (ho); clear HO_14; clear HB; clear HO458; have HO_14 := n0_; have HB := n1_; have HO461 := n2_; clear n0_ n1_ n2_; clear ho hb hg hat; obtain ⟨Ao52, co52, eo52⟩ := Kd.R_slice HO461.out; subst eo52; have p462 : 0 ≤ ((ji22) : Int) := of_decide_eq_true (by first | (with_reducible assumption) | assumption); have q462 : (ji22) < (y459.length : Int) := of_decide_eq_true (by first | (with_reducible assumption) | assumption); obtain ⟨ad462, e462, hx462_0⟩ := Kd.at_int (Kd.R_reads' HO461.out).2.2 (ji22) p462 q462; cases e462; replace p462 := eq_true p462; replace q462 := eq_true q462; have p25 : 0 ≤ ((ji22) : Int) := of_decide_eq_true (by first | (with_reducible assumption) | assumption); have q25 : ((ji22) : Int) < ((y459.length : Int) : Int) := of_decide_eq_true (by first | (with_reducible assumption) | assumption); obtain ⟨go25, co25, eo25, gb25, gl25, cl25, HG25⟩ := Kd.R_form HO461.out (by omega); (first | cases eo25 | (injection eo25 with ea_ en_ ec_; (first | subst ea_ | (injection ea_ with ea_; subst ea_)); subst ec_; clear en_)); have GB25 := Aside0.mk gb25; have GG25 := Aside0.mk HG25; clear gb25 gl25 HG25; (first | simp only [add_plain] at hx462_0 | skip); obtain ⟨hx25_0, hf25_0⟩ := Kd.R_celln 0 HO461.out ((ji22) : Int) p25 q25; replace p25 := eq_true p25; replace q25 := eq_true q25; obtain ⟨hy53_, hz53_⟩ := Kd.R_celln 0 HO461.out ((ji22) : Int) (of_decide_eq_true (by first | (with_reducible assumption) | assumption)) (of_decide_eq_true (by first | (with_reducible assumption) | assumption)); have HP53 := Kd.R_putg HO461.out ((ji22) : Int) (Go.bits .xor .u8 (rd y459 (ji22)) a5)) | ((with_reducible refine gate_store (t := 5) (p := 77) rfl ?_); refine store_event (t := 5) (p := 77) (v := ?vo_w54) (w1 := (w50.setCell ⟨go25, ((ji22) : Int).toNat, none⟩ (.int .u8 (Go.bits .xor .u8 (rd y459 (ji22)) a5)))) ?hg ?ho ?hn ?hr ?_; (case ho => rfl); (case hg => rfl); (case hn => rfl); (case hr => first | (go_simp; done) | (go_simp; rfl)); intro w54 hw; have hg : w50.grownBy w54 (some go25) := (by rw [hw]; exact HP53.2); have hp_ : Kd.R (Kd.int .u8) 5 w54 w.heap.size (fun k_ => some k_ ≠ (.slice Ao51 t452.length co51 : Value).ownBlock) (.slice (some ⟨go25, 0, none⟩) y459.length co52) y463 := (by rw [hw, Ny463.out]; exact HP53.1); clear HP53; have n0_ := Aside0.mk (Kd.R_after (v := (.slice (some ⟨go25, 0, none⟩) y459.length co52)) (v1 := (.slice (some ⟨go25, 0, none⟩) y459.length co52)) (ok := (fun _ => True)) (by (with_reducible repeat (first | apply Kd.R_alloc | apply Kd.R_drewN | apply Kd.R_drew)); exact HO_14.out) hg (.inl rfl)); have n1_ := Aside0.mk (hp_); have n2_ := Aside0.mk ((by rw [hw]; exact below_set (HB.out) GB25.out : Below w.heap.size w w54)); clear HO_14; clear HO461; clear HB; have HO_14 := n0_; have HO461 := n1_; have HB := n2_; clear n0_ n1_ n2_; clear hg hw hp_))
                                have n0_ := Aside0.mk (Kd.R_drew HO_14.out)
                                have n1_ := Aside0.mk (Kd.R_drew HO461.out)
                                have n2_ := Aside0.mk (below_drew1 HB.out)
                                clear HO_14
                                clear HO461
                                clear HB
                                have HO_14 := n0_
                                have HO461 := n1_
                                have HB := n2_
                                clear n0_ n1_ n2_
                                have hlx56 := (Kd.R_reads' HO461.out).1
                                have q56 : ((ji26) : Int) ≤ ((y459.length : Int) : Int) := of_decide_eq_true (by first | (with_reducible assumption) | assumption)
                                obtain ⟨i056, hi056, _, hsz56, _⟩ := info_parts info5
                                have hroom56 : y459.length ≤ co52 := (Kd.R_reads' HO461.out).2.1
                                have hroomc56 : y463.length ≤ co52 := (by rw [← hlx56]; exact hroom56)
                                have hC56 : Kd.C (Kd.int .u8) _ (some ⟨go25, 0, none⟩) y463.length y463 := (Kd.R_reads' HO461.out).2.2
                                have hcut56 := cut_to (P := Try.prog) 28 5 .i64 Try.underlying28 hi056 (some ⟨go25, 0, none⟩) y459.length co52 (ji26) (of_decide_eq_true (by first | (with_reducible assumption) | assumption)) q56 hroom56
                                have hr56 := Kd.C_take (m := ((ji26) : Int).toNat) hC56 (by omega)
                                have hy56 : y464.length = ((ji26) : Int).toNat := (by rw [Ny464.out, List.length_take]; omega)
                                rw [← Ny464.out] at hr56
                                rw [← hy56] at hcut56
                                have HR467 := Aside0.mk hr56
                                have HC467 := Aside0.mk (show y464.length ≤ co52 from by omega)
                                clear hr56 hC56 hroom56 hi056 hsz56 hroomc56
                                have KY56 := Aside0.mk hy56
                                clear hy56
                                have KE56 := Aside0.mk hlx56
                                have KL56 := Aside0.mk (show ((ji26) : Int).toNat ≤ y463.length from by omega)
                                clear hlx56
                                replace q56 := eq_true q56
                                have hlx57 := (Kd.R_reads' HO461.out).1
                                have q57 : ((ji26) : Int) ≤ ((y459.length : Int) : Int) := of_decide_eq_true (by first | (with_reducible assumption) | assumption)
                                obtain ⟨i057, hi057, _, hsz57, _⟩ := info_parts info5
                                have hroom57 : y459.length ≤ co52 := (Kd.R_reads' HO461.out).2.1
                                have hroomc57 : y463.length ≤ co52 := (by rw [← hlx57]; exact hroom57)
                                have hC57 : Kd.C (Kd.int .u8) _ (some ⟨go25, 0, none⟩) y463.length y463 := (Kd.R_reads' HO461.out).2.2
                                have q057 : (0 : Int) ≤ ((ji26) : Int) := of_decide_eq_true (by first | (with_reducible assumption) | assumption)
                                have hcut57 := cut_from (P := Try.prog) 28 5 .i64 Try.underlying28 hi057 1 hsz57 (some ⟨go25, 0, none⟩) y459.length co52 (ji26) q057 q57
                                have hr57 := Kd.C_drop (m := ((ji26) : Int).toNat) (c := co52) hC57 (by omega) hroomc57
                                obtain ⟨A57, hA57⟩ : ∃ A1, A1 = (if co52 = ((ji26) : Int).toNat then (some ⟨go25, 0, none⟩) else ((some ⟨go25, 0, none⟩) : Option Addr).map (·.add (((ji26) : Int).toNat * 1))) := ⟨_, rfl⟩
                                obtain ⟨c57, hc57⟩ : ∃ c1, c1 = co52 - ((ji26) : Int).toNat := ⟨_, rfl⟩
                                have hy57 : y471.length = y459.length - ((ji26) : Int).toNat := (by rw [Ny471.out, List.length_drop] <;> omega)
                                rw [show (y463).drop ((ji26) : Int).toNat = y471 from Ny471.out.symm] at hr57
                                replace hr57 : Kd.C (Kd.int .u8) _ A57 y471.length y471 := (by rw [hA57]; exact hr57)
                                rw [← hy57, ← hA57, ← hc57] at hcut57
                                have HR474 := Aside0.mk hr57
                                have HC474 := Aside0.mk (show y471.length ≤ c57 from by rw [hy57, hc57]; exact Nat.sub_le_sub_right hroom57 _)
                                clear hr57 hC57 hroom57 hi057 hsz57 hc57 hroomc57
                                have KY57 := Aside0.mk hy57
                                have KA57 := Aside0.mk hA57
                                clear hy57 hA57
                                have KE57 := Aside0.mk hlx57
                                have KL57 := Aside0.mk (show ((ji26) : Int).toNat ≤ y463.length from by omega)
                                clear hlx57
                                replace q57 := eq_true q57
                                refine start_ (n := 12) (S := fun w' => True) (ds := []) #[false, false, false, false, false, false, false, false, false, false, false, false] (by kernel_rfl) rfl rfl trivial (fun hHeld => ?_); refine with_tabW casketlaw17_AeadTurned.tab11 casketlaw17_AeadTurned.bits11 (fun HT_ HW_ => ?_)
                                generalize w54.drew = w55 at HO_14 HO461 HB HR467 HR474 hHeld ⊢
                                refine pure_ (i := 0) (N := some 81) (v := ?_) (a' := ?_) #[true, false, false, false, false, false, false, false, false, false, false, false] rfl rfl (any_of HT_.out (by kernel_rfl)) (fun _ _ _ h => h) (Or.inl ⟨by rfl, ?_⟩) ?_ ?_
                                rotate_left
                                · intro w'
                                  go_simp
                                  with_reducible rfl
                                rotate_left
                                · simp only [Act.put, List.setIfInBounds_toArray, List.set_cons_zero, List.set_cons_succ, i64_w, i32_w]
                                  rfl
                                refine pure_ (i := 1) (N := some 82) (v := ?_) (a' := ?_) #[true, true, false, false, false, false, false, false, false, false, false, false] rfl rfl (any_of HT_.out (by kernel_rfl)) (fun _ _ _ h => h) (Or.inl ⟨by rfl, ?_⟩) ?_ ?_
                                rotate_left
                                · intro w'
                                  go_simp
                                  with_reducible rfl
                                rotate_left
                                · simp only [Act.put, List.setIfInBounds_toArray, List.set_cons_zero, List.set_cons_succ, i64_w, i32_w]
                                  rfl
                                refine pure_ (i := 2) (N := some 83) (v := ?_) (a' := ?_) #[true, true, true, false, false, false, false, false, false, false, false, false] rfl rfl (any_of HT_.out (by kernel_rfl)) (fun _ _ _ h => h) (Or.inl ⟨by rfl, ?_⟩) ?_ ?_
                                rotate_left
                                · intro w'
                                  go_simp
                                  with_reducible rfl
                                rotate_left
                                · simp only [Act.put, List.setIfInBounds_toArray, List.set_cons_zero, List.set_cons_succ, i64_w, i32_w]
                                  rfl
                                refine pure_ (i := 3) (N := some 84) (v := ?_) (a' := ?_) #[true, true, true, true, false, false, false, false, false, false, false, false] rfl rfl (any_of HT_.out (by kernel_rfl)) (fun _ _ _ h => h) (Or.inl ⟨by rfl, ?_⟩) ?_ ?_
                                rotate_left
                                · intro w'
                                  go_simp
                                  with_reducible rfl
                                rotate_left
                                · simp only [Act.put, List.setIfInBounds_toArray, List.set_cons_zero, List.set_cons_succ, i64_w, i32_w]
                                  rfl
                                refine pure_ (i := 4) (N := some 85) (v := ?_) (a' := ?_) #[true, true, true, true, true, false, false, false, false, false, false, false] rfl rfl (any_of HT_.out (by kernel_rfl)) (fun _ _ _ h => h) (Or.inl ⟨by rfl, ?_⟩) ?_ ?_
                                rotate_left
                                · intro w'
                                  go_simp
                                  with_reducible rfl
                                rotate_left
                                · simp only [Act.put, List.setIfInBounds_toArray, List.set_cons_zero, List.set_cons_succ, i64_w, i32_w]
                                  rfl
                                refine pure_ (i := 5) (N := some 86) (v := ?_) (a' := ?_) #[true, true, true, true, true, true, false, false, false, false, false, false] rfl rfl (any_of HT_.out (by kernel_rfl)) (fun _ _ _ h => h) (Or.inl ⟨by rfl, ?_⟩) ?_ ?_
                                rotate_left
                                · intro w'
                                  go_simp
                                  with_reducible rfl
                                rotate_left
                                · simp only [Act.put, List.setIfInBounds_toArray, List.set_cons_zero, List.set_cons_succ, i64_w, i32_w]
                                  rfl
                                refine pure_ (i := 7) (N := some 88) (v := ?_) (a' := ?_) #[true, true, true, true, true, true, false, true, false, false, false, false] rfl rfl (any_of HT_.out (by kernel_rfl)) (fun _ _ _ h => h) (Or.inl ⟨by rfl, ?_⟩) ?_ ?_
                                rotate_left
                                · intro w'
                                  go_simp
                                  with_reducible rfl
                                rotate_left
                                · simp only [Act.put, List.setIfInBounds_toArray, List.set_cons_zero, List.set_cons_succ, i64_w, i32_w]
                                  rfl
                                refine pure_ (i := 8) (N := some 89) (v := ?_) (a' := ?_) #[true, true, true, true, true, true, false, true, true, false, false, false] rfl rfl (any_of HT_.out (by kernel_rfl)) (fun _ _ _ h => h) (Or.inl ⟨by rfl, ?_⟩) ?_ ?_
                                rotate_left
                                · intro w'
                                  go_simp
                                  with_reducible rfl
                                rotate_left
                                · simp only [Act.put, List.setIfInBounds_toArray, List.set_cons_zero, List.set_cons_succ, i64_w, i32_w]
                                  rfl
                                refine pure_ (i := 9) (N := some 90) (v := ?_) (a' := ?_) #[true, true, true, true, true, true, false, true, true, true, false, false] rfl rfl (any_of HT_.out (by kernel_rfl)) (fun _ _ _ h => h) (Or.inl ⟨by rfl, ?_⟩) ?_ ?_
                                rotate_left
                                · intro w'
                                  go_simp
                                  with_reducible rfl
                                rotate_left
                                · simp only [Act.put, List.setIfInBounds_toArray, List.set_cons_zero, List.set_cons_succ, i64_w, i32_w]
                                  rfl
                                refine one_ (i := 6) (N := some 87) #[true, true, true, true, true, true, true, true, true, true, false, false] rfl rfl (one_of HT_.out (by kernel_rfl)) (by decide) (fun K hK => ?_)
                                refine goes_ Try.func39 (by kernel_rfl) rfl #[.slice A0 l0.length c0, .slice A1 l1.length c1, .slice A2 l2.length c2, .slice (some ⟨go25, 0, none⟩) y464.length co52] (by rfl) rfl rfl (by (try simp only [List.map_toArray, List.map_cons, List.map_nil]); first | done | rfl | (simp only [List.length_drop, List.length_take]; rfl)) ?_
                                with_reducible refine (casketref17_Tag.calls kj14 _ _ l0 _ _ l1 _ _ l2 _ _ y464 t468 _ ?side1 ?side2 ?side3 ?side4 ?side5 ?side6 ?side7 ?side8 A29.out).mono ?_
                                (case side1 => repeat (first | exact (Kd.C_below HR0.out HB.out) | (with_reducible refine Kd.C_alloc ?_ _) | (with_reducible refine Kd.C_drewN ?_ _) | (with_reducible refine Kd.C_drew ?_)))
                                (case side2 => exact HC0.out)
                                (case side3 => repeat (first | exact (Kd.C_below HR1.out HB.out) | (with_reducible refine Kd.C_alloc ?_ _) | (with_reducible refine Kd.C_drewN ?_ _) | (with_reducible refine Kd.C_drew ?_)))
                                (case side4 => exact HC1.out)
                                (case side5 => repeat (first | exact (Kd.C_below HR2.out HB.out) | (with_reducible refine Kd.C_alloc ?_ _) | (with_reducible refine Kd.C_drewN ?_ _) | (with_reducible refine Kd.C_drew ?_)))
                                (case side6 => exact HC2.out)
                                (case side7 => repeat (first | exact (by repeat (first | (with_reducible exact HR467.out) | (with_reducible refine Kd.C_alloc ?_ _) | (with_reducible refine Kd.C_drewN ?_ _) | (with_reducible refine Kd.C_drew ?_) | exact HR467.out)) | (with_reducible refine Kd.C_alloc ?_ _) | (with_reducible refine Kd.C_drewN ?_ _) | (with_reducible refine Kd.C_drew ?_)))
                                (case side8 => exact HC467.out)
                                rintro e w58 ⟨v469, rfl, ho0, hb⟩
                                refine ⟨_, rfl, ?_⟩
                                have n0_ := Aside0.mk (Kd.R_elder' (by (with_reducible repeat (first | apply Kd.R_alloc | apply Kd.R_drewN | apply Kd.R_drew)); exact HO_14.out) (Kd.R_base ho0) hb)
                                have n1_ := Aside0.mk (Kd.R_elder' (by (with_reducible repeat (first | apply Kd.R_alloc | apply Kd.R_drewN | apply Kd.R_drew)); exact HO461.out) (Kd.R_base ho0) hb)
                                have n2_ := Aside0.mk (Kd.R_lower (Kd.R_new' (Kd.R_new' ho0 (Kd.R_lt (by (with_reducible repeat (first | apply Kd.R_alloc | apply Kd.R_drewN | apply Kd.R_drew)); exact HO_14.out))) (Kd.R_lt (by (with_reducible repeat (first | apply Kd.R_alloc | apply Kd.R_drewN | apply Kd.R_drew)); exact HO461.out))) (below_size (by repeat (first | (with_reducible first | exact HB.out | apply below_alloc | apply pw_below_drewN | apply below_drew1) | exact HB.out))))
                                have n3_ := Aside0.mk (Kd.C_below (by repeat (first | (with_reducible exact HR467.out) | (with_reducible refine Kd.C_alloc ?_ _) | (with_reducible refine Kd.C_drewN ?_ _) | (with_reducible refine Kd.C_drew ?_) | exact HR467.out)) hb)
                                have n4_ := Aside0.mk (Kd.C_below (by repeat (first | (with_reducible exact HR474.out) | (with_reducible refine Kd.C_alloc ?_ _) | (with_reducible refine Kd.C_drewN ?_ _) | (with_reducible refine Kd.C_drew ?_) | exact HR474.out)) hb)
                                have n5_ := Aside0.mk (below_step (by repeat (first | (with_reducible first | exact HB.out | apply below_alloc | apply pw_below_drewN | apply below_drew1) | exact HB.out)) hb)
                                clear HO_14
                                clear HO461
                                clear HR467
                                clear HR474
                                clear HB
                                have HO_14 := n0_
                                have HO461 := n1_
                                have HO470 := n2_
                                have HR467 := n3_
                                have HR474 := n4_
                                have HB := n5_
                                clear n0_ n1_ n2_ n3_ n4_ n5_
                                (try clear hb)
                                (try clear hb2)
                                (try clear hk)
                                (try clear hi)
                                (try clear ho0)
                                obtain ⟨Ao59, co59, eo59⟩ := Kd.R_slice HO470.out
                                (first | subst eo59 | (injection eo59 with f1_ f2_ f3_; have f4_ := f1_.symm; have f5_ := f3_.symm; clear f1_ f2_ f3_; subst f4_; subst f5_))
                                refine hK.out _ _ trivial (fun hHeld => ?_)
                                clear hK K
                                refine norm_ (a' := ?_) ?_ ?_
                                rotate_left
                                · show Act.put _ (some 87) _ = _
                                  simp only [Act.put, List.setIfInBounds_toArray, List.set_cons_zero, List.set_cons_succ, i64_w, i32_w]
                                  rfl
                                refine one_ (i := 10) (N := some 91) #[true, true, true, true, true, true, true, true, true, true, true, false] rfl rfl (one_of HT_.out (by kernel_rfl)) (by decide) (fun K hK => ?_)
                                refine goes_ Try.func36 (by kernel_rfl) rfl #[.slice Ao59 t468.length co59, .slice A57 y471.length c57] (by rfl) rfl rfl (by (try simp only [List.map_toArray, List.map_cons, List.map_nil]); first | done | rfl | (simp only [List.length_drop, List.length_take]; rfl)) ?_
                                with_reducible refine (casketlaw17_same.calls kj14 _ _ t468 _ _ y471 t475 _ ?side1 ?side2 ?side3 ?side4 A32.out).mono ?_
                                (case side1 => repeat (first | exact (Kd.R_reads' HO470.out).2.2 | (with_reducible refine Kd.C_alloc ?_ _) | (with_reducible refine Kd.C_drewN ?_ _) | (with_reducible refine Kd.C_drew ?_)))
                                (case side2 => exact (Kd.R_reads' HO470.out).2.1)
                                (case side3 => repeat (first | exact (by repeat (first | (with_reducible exact HR474.out) | (with_reducible refine Kd.C_alloc ?_ _) | (with_reducible refine Kd.C_drewN ?_ _) | (with_reducible refine Kd.C_drew ?_) | exact HR474.out)) | (with_reducible refine Kd.C_alloc ?_ _) | (with_reducible refine Kd.C_drewN ?_ _) | (with_reducible refine Kd.C_drew ?_)))
                                (case side4 => exact HC474.out)
                                rintro e w' ⟨rfl, ⟨nd, rfl⟩⟩
                                refine ⟨_, rfl, ?_⟩
                                refine hK.out _ _ trivial (fun hHeld => ?_)
                                clear hK K
                                refine norm_ (a' := ?_) ?_ ?_
                                rotate_left
                                · show Act.put _ (some 91) _ = _
                                  simp only [Act.put, List.setIfInBounds_toArray, List.set_cons_zero, List.set_cons_succ, i64_w, i32_w]
                                  rfl
                                refine pure_ (i := 11) (N := some 19) (v := ?_) (a' := ?_) #[true, true, true, true, true, true, true, true, true, true, true, true] rfl rfl (any_of HT_.out (by kernel_rfl)) (fun _ _ _ h => h) (Or.inl ⟨by rfl, ?_⟩) ?_ ?_
                                rotate_left
                                · intro w'
                                  go_simp
                                  with_reducible rfl
                                rotate_left
                                · simp only [Act.put, List.setIfInBounds_toArray, List.set_cons_zero, List.set_cons_succ, i64_w, i32_w]
                                  rfl
                                refine done_ (done_of HT_.out (by kernel_rfl)) ?_
                                (try clear p462)
                                (try clear q462)
                                (try clear p25)
                                (try clear q25)
                                (try clear hx25_0)
                                (try clear hy53_)
                                (try clear q56)
                                (try clear hcut56)
                                (try clear q57)
                                (try clear q057)
                                (try clear hcut57)
                                (try clear HT_)
                                (try clear HW_)
                                (try clear hHeld)
                                try go_wp2_with (first | ((with_reducible refine gate_callee (f := 37) rfl ?_); refine goesL_ (some 97) rfl rfl Try.func37 (by kernel_rfl) rfl #[.slice A0 l0.length c0, .slice A1 l1.length c1, .slice A2 l2.length c2, .slice (some ⟨go25, 0, none⟩) y463.length co52] rfl (by (try simp only [List.map_toArray, List.map_cons, List.map_nil]); first | done | (rw [show y463.length = y459.length from (Kd.R_reads' HO461.out).1.symm] <;> rfl) | rfl | (simp only [List.length_drop, List.length_take]; rfl)) ?_; (with_reducible refine (aead_Open.calls kj14 _ _ l0 _ _ l1 _ _ l2 _ _ y463 t476 t477 _ ?side1 ?side2 ?side3 ?side4 ?side5 ?side6 ?side7 ?side8 A33.out).mono ?_); (case side1 => repeat (first | exact (Kd.C_below HR0.out (by repeat (first | (with_reducible first | exact HB.out | apply below_alloc | apply pw_below_drewN | apply below_drew1) | exact HB.out))) | (with_reducible refine Kd.C_alloc ?_ _) | (with_reducible refine Kd.C_drewN ?_ _) | (with_reducible refine Kd.C_drew ?_))); (case side2 => exact HC0.out); (case side3 => repeat (first | exact (Kd.C_below HR1.out (by repeat (first | (with_reducible first | exact HB.out | apply below_alloc | apply pw_below_drewN | apply below_drew1) | exact HB.out))) | (with_reducible refine Kd.C_alloc ?_ _) | (with_reducible refine Kd.C_drewN ?_ _) | (with_reducible refine Kd.C_drew ?_))); (case side4 => exact HC1.out); (case side5 => repeat (first | exact (Kd.C_below HR2.out (by repeat (first | (with_reducible first | exact HB.out | apply below_alloc | apply pw_below_drewN | apply below_drew1) | exact HB.out))) | (with_reducible refine Kd.C_alloc ?_ _) | (with_reducible refine Kd.C_drewN ?_ _) | (with_reducible refine Kd.C_drew ?_))); (case side6 => exact HC2.out); (case side7 => repeat (first | exact (Kd.R_reads' HO461.out).2.2 | (with_reducible refine Kd.C_alloc ?_ _) | (with_reducible refine Kd.C_drewN ?_ _) | (with_reducible refine Kd.C_drew ?_))); (case side8 => rw [show y463.length = y459.length from (Kd.R_reads' HO461.out).1.symm]; exact (Kd.R_reads' HO461.out).2.1); rintro e w60 ⟨v478, rfl, ho0, hb⟩; refine ⟨_, rfl, ?_⟩; have n0_ := Aside0.mk (Kd.R_elder' (by (with_reducible repeat (first | apply Kd.R_alloc | apply Kd.R_drewN | apply Kd.R_drew)); exact HO_14.out) (Kd.R_base ho0) hb); have n1_ := Aside0.mk (Kd.R_elder' (by (with_reducible repeat (first | apply Kd.R_alloc | apply Kd.R_drewN | apply Kd.R_drew)); exact HO461.out) (Kd.R_base ho0) hb); have n2_ := Aside0.mk (Kd.R_elder' (by (with_reducible repeat (first | apply Kd.R_alloc | apply Kd.R_drewN | apply Kd.R_drew)); exact HO470.out) (Kd.R_base ho0) hb); have n3_ := Aside0.mk (Kd.R_lower (Kd.R_new' (Kd.R_new' (Kd.R_new' ho0 (Kd.R_lt (by (with_reducible repeat (first | apply Kd.R_alloc | apply Kd.R_drewN | apply Kd.R_drew)); exact HO_14.out))) (Kd.R_lt (by (with_reducible repeat (first | apply Kd.R_alloc | apply Kd.R_drewN | apply Kd.R_drew)); exact HO461.out))) (Kd.R_lt (by (with_reducible repeat (first | apply Kd.R_alloc | apply Kd.R_drewN | apply Kd.R_drew)); exact HO470.out))) (below_size (by repeat (first | (with_reducible first | exact HB.out | apply below_alloc | apply pw_below_drewN | apply below_drew1) | exact HB.out)))); have n6_ := Aside0.mk (below_step (by repeat (first | (with_reducible first | exact HB.out | apply below_alloc | apply pw_below_drewN | apply below_drew1) | exact HB.out)) hb); clear HO_14; clear HO461; clear HO470; (try clear HR467); (try clear HR474); clear HB; have HO_14 := n0_; have HO461 := n1_; have HO470 := n2_; have HO479 := n3_; have HB := n6_; clear n0_ n1_ n2_ n3_ n6_; (try clear hb); (try clear hb2); (try clear hk); (try clear hi); (try clear ho0)) | ((with_reducible refine gate_dst (N := 100) rfl ?_); (try (refine gate_guard (by rfl) ?_; dsimp only)); refine Kd.R_lit (Kd.int .u8) _ 5 ?hg (N := 100) ?hd (xs := ([] : List Int)) (inner := []) (ok := fun _ => True) (okp := fun _ => True) ?hr ?hp (fun _ hk => hk) trivial (Below.refl _ _) (Nat.le_refl _) (by simp) ?_; (case hd => rfl); (case hg => rfl); (case hr => first | (go_simp; done) | (go_simp; rfl)); (case hp => exact (Reps.none _ _)); intro v481 w61 ho62 hb hg_ hnew_; clear hg_ hnew_; (first | rw [← Ny480.out] at ho62 | (simp only [Int.reduceToNat] at ho62; rw [← Ny480.out] at ho62)); have n0_ := Aside0.mk (Kd.R_elder' (by (with_reducible repeat (first | apply Kd.R_alloc | apply Kd.R_drewN | apply Kd.R_drew)); exact HO_14.out) (Kd.R_base ho62) hb); have n1_ := Aside0.mk (Kd.R_elder' (by (with_reducible repeat (first | apply Kd.R_alloc | apply Kd.R_drewN | apply Kd.R_drew)); exact HO461.out) (Kd.R_base ho62) hb); have n2_ := Aside0.mk (Kd.R_elder' (by (with_reducible repeat (first | apply Kd.R_alloc | apply Kd.R_drewN | apply Kd.R_drew)); exact HO470.out) (Kd.R_base ho62) hb); have n3_ := Aside0.mk (Kd.R_elder' (by (with_reducible repeat (first | apply Kd.R_alloc | apply Kd.R_drewN | apply Kd.R_drew)); exact HO479.out) (Kd.R_base ho62) hb); have n4_ := Aside0.mk (Kd.R_lower (Kd.R_new' (Kd.R_new' (Kd.R_new' (Kd.R_new' ho62 (Kd.R_lt (by (with_reducible repeat (first | apply Kd.R_alloc | apply Kd.R_drewN | apply Kd.R_drew)); exact HO_14.out))) (Kd.R_lt (by (with_reducible repeat (first | apply Kd.R_alloc | apply Kd.R_drewN | apply Kd.R_drew)); exact HO461.out))) (Kd.R_lt (by (with_reducible repeat (first | apply Kd.R_alloc | apply Kd.R_drewN | apply Kd.R_drew)); exact HO470.out))) (Kd.R_lt (by (with_reducible repeat (first | apply Kd.R_alloc | apply Kd.R_drewN | apply Kd.R_drew)); exact HO479.out))) (below_size (by repeat (first | (with_reducible first | exact HB.out | apply below_alloc | apply pw_below_drewN | apply below_drew1) | exact HB.out)))); have n7_ := Aside0.mk (below_step (by repeat (first | (with_reducible first | exact HB.out | apply below_alloc | apply pw_below_drewN | apply below_drew1) | exact HB.out)) hb); clear HO_14; clear HO461; clear HO470; clear HO479; (try clear HR467); (try clear HR474); clear HB; have HO_14 := n0_; have HO461 := n1_; have HO470 := n2_; have HO479 := n3_; have HO482 := n4_; have HB := n7_; clear n0_ n1_ n2_ n3_ n4_ n7_; clear hb ho62) | ((with_reducible refine gate_builtin (b := .append) (xs := #[.tmp 100, .tmp 101]) rfl ?_); (try (refine gate_guard (by rfl) ?_; dsimp only)); at_builtin; refine Kd.R_append_rows (Kd.int .u8) (w0 := w) w.heap.size rfl (.tmp 100) (.tmp 101) 28 5 (.int .u8 0) 1 rfl Try.underlying28 info5 rfl (by decide) (by omega) v481 y480 l2 _ _ _ (fun k_ => some k_ ≠ (.slice Ao51 t452.length co51 : Value).ownBlock ∧ some k_ ≠ (.slice (some ⟨go25, 0, none⟩) y459.length co52 : Value).ownBlock ∧ some k_ ≠ (.slice Ao59 t468.length co59 : Value).ownBlock ∧ some k_ ≠ (v478 : Value).ownBlock) (fun _ => False) rfl rfl ?aO ?aR (fun _ _ h => h) (fun _ h => h.elim) ?aF ?aB ?aS ?aL ?_; (case aR => repeat (first | exact (Kd.C_below HR2.out HB.out) | (with_reducible refine Kd.C_alloc ?_ _) | (with_reducible refine Kd.C_drewN ?_ _) | (with_reducible refine Kd.C_drew ?_))); (case aB => exact (by repeat (first | (with_reducible first | exact HB.out | apply below_alloc | apply pw_below_drewN | apply below_drew1) | exact HB.out))); (case aF => exact (fun k_ hk => ⟨Kd.fresh' (Kd.R_lt (by (with_reducible repeat (first | apply Kd.R_alloc | apply Kd.R_drewN | apply Kd.R_drew)); exact HO_14.out)) k_ hk, Kd.fresh' (Kd.R_lt (by (with_reducible repeat (first | apply Kd.R_alloc | apply Kd.R_drewN | apply Kd.R_drew)); exact HO461.out)) k_ hk, Kd.fresh' (Kd.R_lt (by (with_reducible repeat (first | apply Kd.R_alloc | apply Kd.R_drewN | apply Kd.R_drew)); exact HO470.out)) k_ hk, Kd.fresh' (Kd.R_lt (by (with_reducible repeat (first | apply Kd.R_alloc | apply Kd.R_drewN | apply Kd.R_drew)); exact HO479.out)) k_ hk⟩)); (case aO => exact (by (with_reducible repeat (first | apply Kd.R_alloc | apply Kd.R_drewN | apply Kd.R_drew)); exact Kd.R_mono HO482.out (fun _ hk => ⟨hk.1.1.1.2, ⟨hk.1.1.2, ⟨hk.1.2, hk.2⟩⟩⟩))); (case aS => exact (below_size (by repeat (first | (with_reducible first | exact HB.out | apply below_alloc | apply pw_below_drewN | apply below_drew1) | exact HB.out)))); (case aL => have := LMc34.out; omega); intro v484 w63 ho hb hg hat; rw [← Ny483.out] at ho; have n0_ := Aside0.mk (Kd.R_after (ok := (fun k_ => some k_ ≠ (.slice (some ⟨go25, 0, none⟩) y459.length co52 : Value).ownBlock ∧ some k_ ≠ (.slice Ao59 t468.length co59 : Value).ownBlock ∧ some k_ ≠ (v478 : Value).ownBlock)) (by (with_reducible repeat (first | apply Kd.R_alloc | apply Kd.R_drewN | apply Kd.R_drew)); exact Kd.R_mono HO_14.out (fun _ hk => ⟨⟨hk.1.1.1.2, ⟨hk.1.1.2, hk.1.2⟩⟩, hk.2⟩)) hg hat); have n1_ := Aside0.mk (Kd.R_after (ok := (fun k_ => some k_ ≠ (.slice Ao51 t452.length co51 : Value).ownBlock ∧ some k_ ≠ (.slice Ao59 t468.length co59 : Value).ownBlock ∧ some k_ ≠ (v478 : Value).ownBlock)) (by (with_reducible repeat (first | apply Kd.R_alloc | apply Kd.R_drewN | apply Kd.R_drew)); exact Kd.R_mono HO461.out (fun _ hk => ⟨⟨hk.1.1.1, ⟨hk.1.1.2, hk.1.2⟩⟩, hk.2⟩)) hg hat); have n2_ := Aside0.mk (Kd.R_after (ok := (fun k_ => some k_ ≠ (.slice Ao51 t452.length co51 : Value).ownBlock ∧ some k_ ≠ (.slice (some ⟨go25, 0, none⟩) y459.length co52 : Value).ownBlock ∧ some k_ ≠ (v478 : Value).ownBlock)) (by (with_reducible repeat (first | apply Kd.R_alloc | apply Kd.R_drewN | apply Kd.R_drew)); exact Kd.R_mono HO470.out (fun _ hk => ⟨⟨hk.1.1.1.2, ⟨hk.1.1.2, hk.1.2⟩⟩, hk.2⟩)) hg hat); have n3_ := Aside0.mk (Kd.R_after (ok := (fun k_ => some k_ ≠ (.slice Ao51 t452.length co51 : Value).ownBlock ∧ some k_ ≠ (.slice (some ⟨go25, 0, none⟩) y459.length co52 : Value).ownBlock ∧ some k_ ≠ (.slice Ao59 t468.length co59 : Value).ownBlock)) (by (with_reducible repeat (first | apply Kd.R_alloc | apply Kd.R_drewN | apply Kd.R_drew)); exact Kd.R_mono HO479.out (fun _ hk => ⟨⟨hk.1.1.1.2, ⟨hk.1.1.2, hk.1.2⟩⟩, hk.2⟩)) hg hat); have n4_ := Aside0.mk (hb); have n5_ := Aside0.mk ((show Kd.C (Kd.int .u8) w63 (some ⟨go25, 0, none⟩) y464.length y464 from by rw [Ny464.out]; exact Kd.C_take (m := ((ji26) : Int).toNat) ((Kd.R_reads' (Kd.R_after (ok := (fun k_ => some k_ ≠ (.slice Ao51 t452.length co51 : Value).ownBlock ∧ some k_ ≠ (.slice Ao59 t468.length co59 : Value).ownBlock ∧ some k_ ≠ (v478 : Value).ownBlock)) (by (with_reducible repeat (first | apply Kd.R_alloc | apply Kd.R_drewN | apply Kd.R_drew)); exact Kd.R_mono HO461.out (fun _ hk => ⟨⟨hk.1.1.1, ⟨hk.1.1.2, hk.1.2⟩⟩, hk.2⟩)) hg hat)).2.2) KL56.out)); have n6_ := Aside0.mk ((show Kd.C (Kd.int .u8) w63 A57 y471.length y471 from by rw [Ny471.out, KA57.out]; exact Kd.C_drop (m := ((ji26) : Int).toNat) (c := co52) ((Kd.R_reads' (Kd.R_after (ok := (fun k_ => some k_ ≠ (.slice Ao51 t452.length co51 : Value).ownBlock ∧ some k_ ≠ (.slice Ao59 t468.length co59 : Value).ownBlock ∧ some k_ ≠ (v478 : Value).ownBlock)) (by (with_reducible repeat (first | apply Kd.R_alloc | apply Kd.R_drewN | apply Kd.R_drew)); exact Kd.R_mono HO461.out (fun _ hk => ⟨⟨hk.1.1.1, ⟨hk.1.1.2, hk.1.2⟩⟩, hk.2⟩)) hg hat)).2.2) KL57.out (by rw [← KE57.out]; exact (Kd.R_reads' (Kd.R_after (ok := (fun k_ => some k_ ≠ (.slice Ao51 t452.length co51 : Value).ownBlock ∧ some k_ ≠ (.slice Ao59 t468.length co59 : Value).ownBlock ∧ some k_ ≠ (v478 : Value).ownBlock)) (by (with_reducible repeat (first | apply Kd.R_alloc | apply Kd.R_drewN | apply Kd.R_drew)); exact Kd.R_mono HO461.out (fun _ hk => ⟨⟨hk.1.1.1, ⟨hk.1.1.2, hk.1.2⟩⟩, hk.2⟩)) hg hat)).2.1))); have n7_ := Aside0.mk (ho); clear HO_14; clear HO461; clear HO470; clear HO479; clear HB; (try clear HR467); (try clear HR474); clear HO482; have HO_14 := n0_; have HO461 := n1_; have HO470 := n2_; have HO479 := n3_; have HB := n4_; have HR467 := n5_; have HR474 := n6_; have HO485 := n7_; clear n0_ n1_ n2_ n3_ n4_ n5_ n6_ n7_; clear ho hb hg hat) | ((with_reducible refine gate_builtin (b := .append) (xs := #[.tmp 102, .tmp 104]) rfl ?_); (try (refine gate_guard (by rfl) ?_; dsimp only)); at_builtin; refine Kd.R_append (Kd.int .u8) (w0 := w) w.heap.size rfl (.tmp 102) (.tmp 104) 28 5 (.int .u8 0) 1 rfl Try.underlying28 info5 rfl (by decide) (by omega) v484 y483 a5 [.int .u8 a5] (fun k_ => some k_ ≠ (.slice Ao51 t452.length co51 : Value).ownBlock ∧ some k_ ≠ (.slice (some ⟨go25, 0, none⟩) y459.length co52 : Value).ownBlock ∧ some k_ ≠ (.slice Ao59 t468.length co59 : Value).ownBlock ∧ some k_ ≠ (v478 : Value).ownBlock) (fun _ => False) rfl rfl ?aP (fun _ hk => hk.elim) ?aF ?aO ?aB ?aS ?aL ?_; (case aP => exact rfl); (case aB => exact (by repeat (first | (with_reducible first | exact HB.out | apply below_alloc | apply pw_below_drewN | apply below_drew1) | exact HB.out))); (case aF => exact (fun k_ hk => ⟨Kd.fresh' (Kd.R_lt (by (with_reducible repeat (first | apply Kd.R_alloc | apply Kd.R_drewN | apply Kd.R_drew)); exact HO_14.out)) k_ hk, Kd.fresh' (Kd.R_lt (by (with_reducible repeat (first | apply Kd.R_alloc | apply Kd.R_drewN | apply Kd.R_drew)); exact HO461.out)) k_ hk, Kd.fresh' (Kd.R_lt (by (with_reducible repeat (first | apply Kd.R_alloc | apply Kd.R_drewN | apply Kd.R_drew)); exact HO470.out)) k_ hk, Kd.fresh' (Kd.R_lt (by (with_reducible repeat (first | apply Kd.R_alloc | apply Kd.R_drewN | apply Kd.R_drew)); exact HO479.out)) k_ hk⟩)); (case aO => exact (by (with_reducible repeat (first | apply Kd.R_alloc | apply Kd.R_drewN | apply Kd.R_drew)); exact HO485.out)); (case aS => exact (below_size (by repeat (first | (with_reducible first | exact HB.out | apply below_alloc | apply pw_below_drewN | apply below_drew1) | exact HB.out)))); (case aL => have := LMc35.out; omega); intro v487 w64 ho hb hg hat; rw [← Ny486.out] at ho; have n0_ := Aside0.mk (Kd.R_after (ok := (fun k_ => some k_ ≠ (.slice (some ⟨go25, 0, none⟩) y459.length co52 : Value).ownBlock ∧ some k_ ≠ (.slice Ao59 t468.length co59 : Value).ownBlock ∧ some k_ ≠ (v478 : Value).ownBlock)) (by (with_reducible repeat (first | apply Kd.R_alloc | apply Kd.R_drewN | apply Kd.R_drew)); exact HO_14.out) hg hat); have n1_ := Aside0.mk (Kd.R_after (ok := (fun k_ => some k_ ≠ (.slice Ao51 t452.length co51 : Value).ownBlock ∧ some k_ ≠ (.slice Ao59 t468.length co59 : Value).ownBlock ∧ some k_ ≠ (v478 : Value).ownBlock)) (by (with_reducible repeat (first | apply Kd.R_alloc | apply Kd.R_drewN | apply Kd.R_drew)); exact HO461.out) hg hat); have n2_ := Aside0.mk (Kd.R_after (ok := (fun k_ => some k_ ≠ (.slice Ao51 t452.length co51 : Value).ownBlock ∧ some k_ ≠ (.slice (some ⟨go25, 0, none⟩) y459.length co52 : Value).ownBlock ∧ some k_ ≠ (v478 : Value).ownBlock)) (by (with_reducible repeat (first | apply Kd.R_alloc | apply Kd.R_drewN | apply Kd.R_drew)); exact HO470.out) hg hat); have n3_ := Aside0.mk (Kd.R_after (ok := (fun k_ => some k_ ≠ (.slice Ao51 t452.length co51 : Value).ownBlock ∧ some k_ ≠ (.slice (some ⟨go25, 0, none⟩) y459.length co52 : Value).ownBlock ∧ some k_ ≠ (.slice Ao59 t468.length co59 : Value).ownBlock)) (by (with_reducible repeat (first | apply Kd.R_alloc | apply Kd.R_drewN | apply Kd.R_drew)); exact HO479.out) hg hat); have n4_ := Aside0.mk (hb); have n5_ := Aside0.mk ((show Kd.C (Kd.int .u8) w64 (some ⟨go25, 0, none⟩) y464.length y464 from by rw [Ny464.out]; exact Kd.C_take (m := ((ji26) : Int).toNat) ((Kd.R_reads' (Kd.R_after (ok := (fun k_ => some k_ ≠ (.slice Ao51 t452.length co51 : Value).ownBlock ∧ some k_ ≠ (.slice Ao59 t468.length co59 : Value).ownBlock ∧ some k_ ≠ (v478 : Value).ownBlock)) (by (with_reducible repeat (first | apply Kd.R_alloc | apply Kd.R_drewN | apply Kd.R_drew)); exact HO461.out) hg hat)).2.2) KL56.out)); have n6_ := Aside0.mk ((show Kd.C (Kd.int .u8) w64 A57 y471.length y471 from by rw [Ny471.out, KA57.out]; exact Kd.C_drop (m := ((ji26) : Int).toNat) (c := co52) ((Kd.R_reads' (Kd.R_after (ok := (fun k_ => some k_ ≠ (.slice Ao51 t452.length co51 : Value).ownBlock ∧ some k_ ≠ (.slice Ao59 t468.length co59 : Value).ownBlock ∧ some k_ ≠ (v478 : Value).ownBlock)) (by (with_reducible repeat (first | apply Kd.R_alloc | apply Kd.R_drewN | apply Kd.R_drew)); exact HO461.out) hg hat)).2.2) KL57.out (by rw [← KE57.out]; exact (Kd.R_reads' (Kd.R_after (ok := (fun k_ => some k_ ≠ (.slice Ao51 t452.length co51 : Value).ownBlock ∧ some k_ ≠ (.slice Ao59 t468.length co59 : Value).ownBlock ∧ some k_ ≠ (v478 : Value).ownBlock)) (by (with_reducible repeat (first | apply Kd.R_alloc | apply Kd.R_drewN | apply Kd.R_drew)); exact HO461.out) hg hat)).2.1))); have n7_ := Aside0.mk (ho); clear HO_14; clear HO461; clear HO470; clear HO479; clear HB; (try clear HR467); (try clear HR474); clear HO485; have HO_14 := n0_; have HO461 := n1_; have HO470 := n2_; have HO479 := n3_; have HB := n4_; have HR467 := n5_; have HR474 := n6_; have HO488 := n7_; clear n0_ n1_ n2_ n3_ n4_ n5_ n6_ n7_; clear ho hb hg hat))
                                have n0_ := Aside0.mk (Kd.R_drew HO_14.out)
                                have n1_ := Aside0.mk (Kd.R_drew HO461.out)
                                have n2_ := Aside0.mk (Kd.R_drew HO470.out)
                                have n3_ := Aside0.mk (Kd.R_drew HO479.out)
                                have n4_ := Aside0.mk (Kd.R_drew HO488.out)
                                have n5_ := Aside0.mk (Kd.C_drew HR467.out)
                                have n6_ := Aside0.mk (Kd.C_drew HR474.out)
                                have n7_ := Aside0.mk (below_drew1 HB.out)
                                clear HO_14
                                clear HO461
                                clear HO470
                                clear HO479
                                clear HO488
                                clear HR467
                                clear HR474
                                clear HB
                                have HO_14 := n0_
                                have HO461 := n1_
                                have HO470 := n2_
                                have HO479 := n3_
                                have HO488 := n4_
                                have HR467 := n5_
                                have HR474 := n6_
                                have HB := n7_
                                clear n0_ n1_ n2_ n3_ n4_ n5_ n6_ n7_
                                have q66 : ((ji26) : Int) ≤ ((t452.length : Int) : Int) := of_decide_eq_true (by first | (with_reducible assumption) | assumption)
                                obtain ⟨i066, hi066, _, hsz66, _⟩ := info_parts info5
                                have hroom66 : t452.length ≤ co51 := (Kd.R_reads' HO_14.out).2.1
                                have hC66 : Kd.C (Kd.int .u8) _ Ao51 t452.length t452 := (Kd.R_reads' HO_14.out).2.2
                                have hcut66 := cut_to (P := Try.prog) 28 5 .i64 Try.underlying28 hi066 Ao51 t452.length co51 (ji26) (of_decide_eq_true (by first | (with_reducible assumption) | assumption)) q66 hroom66
                                have hr66 := Kd.C_take (m := ((ji26) : Int).toNat) hC66 (by omega)
                                have hy66 : y489.length = ((ji26) : Int).toNat := (by rw [Ny489.out, List.length_take]; omega)
                                rw [← Ny489.out] at hr66
                                rw [← hy66] at hcut66
                                have HR492 := Aside0.mk hr66
                                have HC492 := Aside0.mk (show y489.length ≤ co51 from by omega)
                                clear hr66 hC66 hroom66 hi066 hsz66
                                have KY66 := Aside0.mk hy66
                                clear hy66
                                have KL66 := Aside0.mk (show ((ji26) : Int).toNat ≤ t452.length from by omega)
                                replace q66 := eq_true q66
                                have q67 : ((ji26) : Int) ≤ ((t452.length : Int) : Int) := of_decide_eq_true (by first | (with_reducible assumption) | assumption)
                                obtain ⟨i067, hi067, _, hsz67, _⟩ := info_parts info5
                                have hroom67 : t452.length ≤ co51 := (Kd.R_reads' HO_14.out).2.1
                                have hC67 : Kd.C (Kd.int .u8) _ Ao51 t452.length t452 := (Kd.R_reads' HO_14.out).2.2
                                have q067 : (0 : Int) ≤ ((ji26) : Int) := of_decide_eq_true (by first | (with_reducible assumption) | assumption)
                                have hcut67 := cut_from (P := Try.prog) 28 5 .i64 Try.underlying28 hi067 1 hsz67 Ao51 t452.length co51 (ji26) q067 q67
                                have hr67 := Kd.C_drop (m := ((ji26) : Int).toNat) (c := co51) hC67 (by omega) hroom67
                                obtain ⟨A67, hA67⟩ : ∃ A1, A1 = (if co51 = ((ji26) : Int).toNat then Ao51 else (Ao51 : Option Addr).map (·.add (((ji26) : Int).toNat * 1))) := ⟨_, rfl⟩
                                obtain ⟨c67, hc67⟩ : ∃ c1, c1 = co51 - ((ji26) : Int).toNat := ⟨_, rfl⟩
                                have hy67 : y496.length = t452.length - ((ji26) : Int).toNat := (by rw [Ny496.out, List.length_drop] <;> omega)
                                rw [show (t452).drop ((ji26) : Int).toNat = y496 from Ny496.out.symm] at hr67
                                replace hr67 : Kd.C (Kd.int .u8) _ A67 y496.length y496 := (by rw [hA67]; exact hr67)
                                rw [← hy67, ← hA67, ← hc67] at hcut67
                                have HR499 := Aside0.mk hr67
                                have HC499 := Aside0.mk (show y496.length ≤ c67 from by rw [hy67, hc67]; exact Nat.sub_le_sub_right hroom67 _)
                                clear hr67 hC67 hroom67 hi067 hsz67 hc67
                                have KY67 := Aside0.mk hy67
                                have KA67 := Aside0.mk hA67
                                clear hy67 hA67
                                have KL67 := Aside0.mk (show ((ji26) : Int).toNat ≤ t452.length from by omega)
                                replace q67 := eq_true q67
                                obtain ⟨Ao68, co68, eo68⟩ := Kd.R_slice HO488.out
                                (first | subst eo68 | (injection eo68 with f1_ f2_ f3_; have f4_ := f1_.symm; have f5_ := f3_.symm; clear f1_ f2_ f3_; subst f4_; subst f5_))
                                refine start_ (n := 12) (S := fun w' => True) (ds := []) #[false, false, false, false, false, false, false, false, false, false, false, false] (by kernel_rfl) rfl rfl trivial (fun hHeld => ?_); refine with_tabW casketlaw17_AeadTurned.tab14 casketlaw17_AeadTurned.bits14 (fun HT_ HW_ => ?_)
                                generalize w64.drew = w65 at HO_14 HO461 HO470 HO479 HO488 HR467 HR474 HB HR492 HR499 hHeld ⊢
                                refine pure_ (i := 0) (N := some 106) (v := ?_) (a' := ?_) #[true, false, false, false, false, false, false, false, false, false, false, false] rfl rfl (any_of HT_.out (by kernel_rfl)) (fun _ _ _ h => h) (Or.inl ⟨by rfl, ?_⟩) ?_ ?_
                                rotate_left
                                · intro w'
                                  go_simp
                                  with_reducible rfl
                                rotate_left
                                · simp only [Act.put, List.setIfInBounds_toArray, List.set_cons_zero, List.set_cons_succ, i64_w, i32_w]
                                  rfl
                                refine pure_ (i := 1) (N := some 107) (v := ?_) (a' := ?_) #[true, true, false, false, false, false, false, false, false, false, false, false] rfl rfl (any_of HT_.out (by kernel_rfl)) (fun _ _ _ h => h) (Or.inl ⟨by rfl, ?_⟩) ?_ ?_
                                rotate_left
                                · intro w'
                                  go_simp
                                  with_reducible rfl
                                rotate_left
                                · simp only [Act.put, List.setIfInBounds_toArray, List.set_cons_zero, List.set_cons_succ, i64_w, i32_w]
                                  rfl
                                refine pure_ (i := 2) (N := some 108) (v := ?_) (a' := ?_) #[true, true, true, false, false, false, false, false, false, false, false, false] rfl rfl (any_of HT_.out (by kernel_rfl)) (fun _ _ _ h => h) (Or.inl ⟨by rfl, ?_⟩) ?_ ?_
                                rotate_left
                                · intro w'
                                  go_simp
                                  with_reducible rfl
                                rotate_left
                                · simp only [Act.put, List.setIfInBounds_toArray, List.set_cons_zero, List.set_cons_succ, i64_w, i32_w]
                                  rfl
                                refine pure_ (i := 3) (N := some 109) (v := ?_) (a' := ?_) #[true, true, true, true, false, false, false, false, false, false, false, false] rfl rfl (any_of HT_.out (by kernel_rfl)) (fun _ _ _ h => h) (Or.inl ⟨by rfl, ?_⟩) ?_ ?_
                                rotate_left
                                · intro w'
                                  go_simp
                                  with_reducible rfl
                                rotate_left
                                · simp only [Act.put, List.setIfInBounds_toArray, List.set_cons_zero, List.set_cons_succ, i64_w, i32_w]
                                  rfl
                                refine pure_ (i := 4) (N := some 110) (v := ?_) (a' := ?_) #[true, true, true, true, true, false, false, false, false, false, false, false] rfl rfl (any_of HT_.out (by kernel_rfl)) (fun _ _ _ h => h) (Or.inl ⟨by rfl, ?_⟩) ?_ ?_
                                rotate_left
                                · intro w'
                                  go_simp
                                  with_reducible rfl
                                rotate_left
                                · simp only [Act.put, List.setIfInBounds_toArray, List.set_cons_zero, List.set_cons_succ, i64_w, i32_w]
                                  rfl
                                refine pure_ (i := 5) (N := some 111) (v := ?_) (a' := ?_) #[true, true, true, true, true, true, false, false, false, false, false, false] rfl rfl (any_of HT_.out (by kernel_rfl)) (fun _ _ _ h => h) (Or.inl ⟨by rfl, ?_⟩) ?_ ?_
                                rotate_left
                                · intro w'
                                  go_simp
                                  with_reducible rfl
                                rotate_left
                                · simp only [Act.put, List.setIfInBounds_toArray, List.set_cons_zero, List.set_cons_succ, i64_w, i32_w]
                                  rfl
                                refine pure_ (i := 7) (N := some 113) (v := ?_) (a' := ?_) #[true, true, true, true, true, true, false, true, false, false, false, false] rfl rfl (any_of HT_.out (by kernel_rfl)) (fun _ _ _ h => h) (Or.inl ⟨by rfl, ?_⟩) ?_ ?_
                                rotate_left
                                · intro w'
                                  go_simp
                                  with_reducible rfl
                                rotate_left
                                · simp only [Act.put, List.setIfInBounds_toArray, List.set_cons_zero, List.set_cons_succ, i64_w, i32_w]
                                  rfl
                                refine pure_ (i := 8) (N := some 114) (v := ?_) (a' := ?_) #[true, true, true, true, true, true, false, true, true, false, false, false] rfl rfl (any_of HT_.out (by kernel_rfl)) (fun _ _ _ h => h) (Or.inl ⟨by rfl, ?_⟩) ?_ ?_
                                rotate_left
                                · intro w'
                                  go_simp
                                  with_reducible rfl
                                rotate_left
                                · simp only [Act.put, List.setIfInBounds_toArray, List.set_cons_zero, List.set_cons_succ, i64_w, i32_w]
                                  rfl
                                refine pure_ (i := 9) (N := some 115) (v := ?_) (a' := ?_) #[true, true, true, true, true, true, false, true, true, true, false, false] rfl rfl (any_of HT_.out (by kernel_rfl)) (fun _ _ _ h => h) (Or.inl ⟨by rfl, ?_⟩) ?_ ?_
                                rotate_left
                                · intro w'
                                  go_simp
                                  with_reducible rfl
                                rotate_left
                                · simp only [Act.put, List.setIfInBounds_toArray, List.set_cons_zero, List.set_cons_succ, i64_w, i32_w]
                                  rfl
                                refine one_ (i := 6) (N := some 112) #[true, true, true, true, true, true, true, true, true, true, false, false] rfl rfl (one_of HT_.out (by kernel_rfl)) (by decide) (fun K hK => ?_)
                                refine goes_ Try.func39 (by kernel_rfl) rfl #[.slice A0 l0.length c0, .slice A1 l1.length c1, .slice Ao68 y486.length co68, .slice Ao51 y489.length co51] (by rfl) rfl rfl (by (try simp only [List.map_toArray, List.map_cons, List.map_nil]); first | done | rfl | (simp only [List.length_drop, List.length_take]; rfl)) ?_
                                with_reducible refine (casketref17_Tag.calls kj14 _ _ l0 _ _ l1 _ _ y486 _ _ y489 t493 _ ?side1 ?side2 ?side3 ?side4 ?side5 ?side6 ?side7 ?side8 A38.out).mono ?_
                                (case side1 => repeat (first | exact (Kd.C_below HR0.out HB.out) | (with_reducible refine Kd.C_alloc ?_ _) | (with_reducible refine Kd.C_drewN ?_ _) | (with_reducible refine Kd.C_drew ?_)))
                                (case side2 => exact HC0.out)
                                (case side3 => repeat (first | exact (Kd.C_below HR1.out HB.out) | (with_reducible refine Kd.C_alloc ?_ _) | (with_reducible refine Kd.C_drewN ?_ _) | (with_reducible refine Kd.C_drew ?_)))
                                (case side4 => exact HC1.out)
                                (case side5 => repeat (first | exact (Kd.R_reads' HO488.out).2.2 | (with_reducible refine Kd.C_alloc ?_ _) | (with_reducible refine Kd.C_drewN ?_ _) | (with_reducible refine Kd.C_drew ?_)))
                                (case side6 => exact (Kd.R_reads' HO488.out).2.1)
                                (case side7 => repeat (first | exact (by repeat (first | (with_reducible exact HR492.out) | (with_reducible refine Kd.C_alloc ?_ _) | (with_reducible refine Kd.C_drewN ?_ _) | (with_reducible refine Kd.C_drew ?_) | exact HR492.out)) | (with_reducible refine Kd.C_alloc ?_ _) | (with_reducible refine Kd.C_drewN ?_ _) | (with_reducible refine Kd.C_drew ?_)))
                                (case side8 => exact HC492.out)
                                rintro e w69 ⟨v494, rfl, ho0, hb⟩
                                refine ⟨_, rfl, ?_⟩
                                have n0_ := Aside0.mk (Kd.R_elder' (by (with_reducible repeat (first | apply Kd.R_alloc | apply Kd.R_drewN | apply Kd.R_drew)); exact HO_14.out) (Kd.R_base ho0) hb)
                                have n1_ := Aside0.mk (Kd.R_elder' (by (with_reducible repeat (first | apply Kd.R_alloc | apply Kd.R_drewN | apply Kd.R_drew)); exact HO461.out) (Kd.R_base ho0) hb)
                                have n2_ := Aside0.mk (Kd.R_elder' (by (with_reducible repeat (first | apply Kd.R_alloc | apply Kd.R_drewN | apply Kd.R_drew)); exact HO470.out) (Kd.R_base ho0) hb)
                                have n3_ := Aside0.mk (Kd.R_elder' (by (with_reducible repeat (first | apply Kd.R_alloc | apply Kd.R_drewN | apply Kd.R_drew)); exact HO479.out) (Kd.R_base ho0) hb)
                                have n4_ := Aside0.mk (Kd.R_elder' (by (with_reducible repeat (first | apply Kd.R_alloc | apply Kd.R_drewN | apply Kd.R_drew)); exact HO488.out) (Kd.R_base ho0) hb)
                                have n5_ := Aside0.mk (Kd.R_lower (Kd.R_new' (Kd.R_new' (Kd.R_new' (Kd.R_new' (Kd.R_new' ho0 (Kd.R_lt (by (with_reducible repeat (first | apply Kd.R_alloc | apply Kd.R_drewN | apply Kd.R_drew)); exact HO_14.out))) (Kd.R_lt (by (with_reducible repeat (first | apply Kd.R_alloc | apply Kd.R_drewN | apply Kd.R_drew)); exact HO461.out))) (Kd.R_lt (by (with_reducible repeat (first | apply Kd.R_alloc | apply Kd.R_drewN | apply Kd.R_drew)); exact HO470.out))) (Kd.R_lt (by (with_reducible repeat (first | apply Kd.R_alloc | apply Kd.R_drewN | apply Kd.R_drew)); exact HO479.out))) (Kd.R_lt (by (with_reducible repeat (first | apply Kd.R_alloc | apply Kd.R_drewN | apply Kd.R_drew)); exact HO488.out))) (below_size (by repeat (first | (with_reducible first | exact HB.out | apply below_alloc | apply pw_below_drewN | apply below_drew1) | exact HB.out))))
                                have n6_ := Aside0.mk (Kd.C_below (by repeat (first | (with_reducible exact HR467.out) | (with_reducible refine Kd.C_alloc ?_ _) | (with_reducible refine Kd.C_drewN ?_ _) | (with_reducible refine Kd.C_drew ?_) | exact HR467.out)) hb)
                                have n7_ := Aside0.mk (Kd.C_below (by repeat (first | (with_reducible exact HR474.out) | (with_reducible refine Kd.C_alloc ?_ _) | (with_reducible refine Kd.C_drewN ?_ _) | (with_reducible refine Kd.C_drew ?_) | exact HR474.out)) hb)
                                have n8_ := Aside0.mk (Kd.C_below (by repeat (first | (with_reducible exact HR492.out) | (with_reducible refine Kd.C_alloc ?_ _) | (with_reducible refine Kd.C_drewN ?_ _) | (with_reducible refine Kd.C_drew ?_) | exact HR492.out)) hb)
                                have n9_ := Aside0.mk (Kd.C_below (by repeat (first | (with_reducible exact HR499.out) | (with_reducible refine Kd.C_alloc ?_ _) | (with_reducible refine Kd.C_drewN ?_ _) | (with_reducible refine Kd.C_drew ?_) | exact HR499.out)) hb)
                                have n10_ := Aside0.mk (below_step (by repeat (first | (with_reducible first | exact HB.out | apply below_alloc | apply pw_below_drewN | apply below_drew1) | exact HB.out)) hb)
                                clear HO_14
                                clear HO461
                                clear HO470
                                clear HO479
                                clear HO488
                                clear HR467
                                clear HR474
                                clear HR492
                                clear HR499
                                clear HB
                                have HO_14 := n0_
                                have HO461 := n1_
                                have HO470 := n2_
                                have HO479 := n3_
                                have HO488 := n4_
                                have HO495 := n5_
                                have HR467 := n6_
                                have HR474 := n7_
                                have HR492 := n8_
                                have HR499 := n9_
                                have HB := n10_
                                clear n0_ n1_ n2_ n3_ n4_ n5_ n6_ n7_ n8_ n9_ n10_
                                (try clear hb)
                                (try clear hb2)
                                (try clear hk)
                                (try clear hi)
                                (try clear ho0)
                                obtain ⟨Ao70, co70, eo70⟩ := Kd.R_slice HO495.out
                                (first | subst eo70 | (injection eo70 with f1_ f2_ f3_; have f4_ := f1_.symm; have f5_ := f3_.symm; clear f1_ f2_ f3_; subst f4_; subst f5_))
                                refine hK.out _ _ trivial (fun hHeld => ?_)
                                clear hK K
                                refine norm_ (a' := ?_) ?_ ?_
                                rotate_left
                                · show Act.put _ (some 112) _ = _
                                  simp only [Act.put, List.setIfInBounds_toArray, List.set_cons_zero, List.set_cons_succ, i64_w, i32_w]
                                  rfl
                                refine one_ (i := 10) (N := some 116) #[true, true, true, true, true, true, true, true, true, true, true, false] rfl rfl (one_of HT_.out (by kernel_rfl)) (by decide) (fun K hK => ?_)
                                refine goes_ Try.func36 (by kernel_rfl) rfl #[.slice Ao70 t493.length co70, .slice A67 y496.length c67] (by rfl) rfl rfl (by (try simp only [List.map_toArray, List.map_cons, List.map_nil]); first | done | rfl | (simp only [List.length_drop, List.length_take]; rfl)) ?_
                                with_reducible refine (casketlaw17_same.calls kj14 _ _ t493 _ _ y496 t500 _ ?side1 ?side2 ?side3 ?side4 A41.out).mono ?_
                                (case side1 => repeat (first | exact (Kd.R_reads' HO495.out).2.2 | (with_reducible refine Kd.C_alloc ?_ _) | (with_reducible refine Kd.C_drewN ?_ _) | (with_reducible refine Kd.C_drew ?_)))
                                (case side2 => exact (Kd.R_reads' HO495.out).2.1)
                                (case side3 => repeat (first | exact (by repeat (first | (with_reducible exact HR499.out) | (with_reducible refine Kd.C_alloc ?_ _) | (with_reducible refine Kd.C_drewN ?_ _) | (with_reducible refine Kd.C_drew ?_) | exact HR499.out)) | (with_reducible refine Kd.C_alloc ?_ _) | (with_reducible refine Kd.C_drewN ?_ _) | (with_reducible refine Kd.C_drew ?_)))
                                (case side4 => exact HC499.out)
                                rintro e w' ⟨rfl, ⟨nd, rfl⟩⟩
                                refine ⟨_, rfl, ?_⟩
                                refine hK.out _ _ trivial (fun hHeld => ?_)
                                clear hK K
                                refine norm_ (a' := ?_) ?_ ?_
                                rotate_left
                                · show Act.put _ (some 116) _ = _
                                  simp only [Act.put, List.setIfInBounds_toArray, List.set_cons_zero, List.set_cons_succ, i64_w, i32_w]
                                  rfl
                                refine pure_ (i := 11) (N := some 23) (v := ?_) (a' := ?_) #[true, true, true, true, true, true, true, true, true, true, true, true] rfl rfl (any_of HT_.out (by kernel_rfl)) (fun _ _ _ h => h) (Or.inl ⟨by rfl, ?_⟩) ?_ ?_
                                rotate_left
                                · intro w'
                                  go_simp
                                  with_reducible rfl
                                rotate_left
                                · simp only [Act.put, List.setIfInBounds_toArray, List.set_cons_zero, List.set_cons_succ, i64_w, i32_w]
                                  rfl
                                refine done_ (done_of HT_.out (by kernel_rfl)) ?_
                                (try clear HT_)
                                (try clear HW_)
                                (try clear hHeld)
                                go_upto_region 16 with (first | ((with_reducible refine gate_callee (f := 37) rfl ?_); refine goesL_ (some 122) rfl rfl Try.func37 (by kernel_rfl) rfl #[.slice A0 l0.length c0, .slice A1 l1.length c1, .slice Ao68 y486.length co68, .slice Ao51 t452.length co51] rfl (by (try simp only [List.map_toArray, List.map_cons, List.map_nil]); first | done | rfl | (simp only [List.length_drop, List.length_take]; rfl)) ?_; (with_reducible refine (aead_Open.calls kj14 _ _ l0 _ _ l1 _ _ y486 _ _ t452 t501 t502 _ ?side1 ?side2 ?side3 ?side4 ?side5 ?side6 ?side7 ?side8 A42.out).mono ?_); (case side1 => repeat (first | exact (Kd.C_below HR0.out (by repeat (first | (with_reducible first | exact HB.out | apply below_alloc | apply pw_below_drewN | apply below_drew1) | exact HB.out))) | (with_reducible refine Kd.C_alloc ?_ _) | (with_reducible refine Kd.C_drewN ?_ _) | (with_reducible refine Kd.C_drew ?_))); (case side2 => exact HC0.out); (case side3 => repeat (first | exact (Kd.C_below HR1.out (by repeat (first | (with_reducible first | exact HB.out | apply below_alloc | apply pw_below_drewN | apply below_drew1) | exact HB.out))) | (with_reducible refine Kd.C_alloc ?_ _) | (with_reducible refine Kd.C_drewN ?_ _) | (with_reducible refine Kd.C_drew ?_))); (case side4 => exact HC1.out); (case side5 => repeat (first | exact (Kd.R_reads' HO488.out).2.2 | (with_reducible refine Kd.C_alloc ?_ _) | (with_reducible refine Kd.C_drewN ?_ _) | (with_reducible refine Kd.C_drew ?_))); (case side6 => exact (Kd.R_reads' HO488.out).2.1); (case side7 => repeat (first | exact (Kd.R_reads' HO_14.out).2.2 | (with_reducible refine Kd.C_alloc ?_ _) | (with_reducible refine Kd.C_drewN ?_ _) | (with_reducible refine Kd.C_drew ?_))); (case side8 => exact (Kd.R_reads' HO_14.out).2.1); rintro e w71 ⟨v503, rfl, ho0, hb⟩; refine ⟨_, rfl, ?_⟩; have n0_ := Aside0.mk (Kd.R_elder' (by (with_reducible repeat (first | apply Kd.R_alloc | apply Kd.R_drewN | apply Kd.R_drew)); exact HO_14.out) (Kd.R_base ho0) hb); have n1_ := Aside0.mk (Kd.R_elder' (by (with_reducible repeat (first | apply Kd.R_alloc | apply Kd.R_drewN | apply Kd.R_drew)); exact HO461.out) (Kd.R_base ho0) hb); have n2_ := Aside0.mk (Kd.R_elder' (by (with_reducible repeat (first | apply Kd.R_alloc | apply Kd.R_drewN | apply Kd.R_drew)); exact HO470.out) (Kd.R_base ho0) hb); have n3_ := Aside0.mk (Kd.R_elder' (by (with_reducible repeat (first | apply Kd.R_alloc | apply Kd.R_drewN | apply Kd.R_drew)); exact HO479.out) (Kd.R_base ho0) hb); have n4_ := Aside0.mk (Kd.R_elder' (by (with_reducible repeat (first | apply Kd.R_alloc | apply Kd.R_drewN | apply Kd.R_drew)); exact HO488.out) (Kd.R_base ho0) hb); have n5_ := Aside0.mk (Kd.R_elder' (by (with_reducible repeat (first | apply Kd.R_alloc | apply Kd.R_drewN | apply Kd.R_drew)); exact HO495.out) (Kd.R_base ho0) hb); have n6_ := Aside0.mk (Kd.R_lower (Kd.R_new' (Kd.R_new' (Kd.R_new' (Kd.R_new' (Kd.R_new' (Kd.R_new' ho0 (Kd.R_lt (by (with_reducible repeat (first | apply Kd.R_alloc | apply Kd.R_drewN | apply Kd.R_drew)); exact HO_14.out))) (Kd.R_lt (by (with_reducible repeat (first | apply Kd.R_alloc | apply Kd.R_drewN | apply Kd.R_drew)); exact HO461.out))) (Kd.R_lt (by (with_reducible repeat (first | apply Kd.R_alloc | apply Kd.R_drewN | apply Kd.R_drew)); exact HO470.out))) (Kd.R_lt (by (with_reducible repeat (first | apply Kd.R_alloc | apply Kd.R_drewN | apply Kd.R_drew)); exact HO479.out))) (Kd.R_lt (by (with_reducible repeat (first | apply Kd.R_alloc | apply Kd.R_drewN | apply Kd.R_drew)); exact HO488.out))) (Kd.R_lt (by (with_reducible repeat (first | apply Kd.R_alloc | apply Kd.R_drewN | apply Kd.R_drew)); exact HO495.out))) (below_size (by repeat (first | (with_reducible first | exact HB.out | apply below_alloc | apply pw_below_drewN | apply below_drew1) | exact HB.out)))); have n11_ := Aside0.mk (below_step (by repeat (first | (with_reducible first | exact HB.out | apply below_alloc | apply pw_below_drewN | apply below_drew1) | exact HB.out)) hb); clear HO_14; clear HO461; clear HO470; clear HO479; clear HO488; clear HO495; (try clear HR467); (try clear HR474); (try clear HR492); (try clear HR499); clear HB; have HO_14 := n0_; have HO461 := n1_; have HO470 := n2_; have HO479 := n3_; have HO488 := n4_; have HO495 := n5_; have HO504 := n6_; have HB := n11_; clear n0_ n1_ n2_ n3_ n4_ n5_ n6_ n11_; (try clear hb); (try clear hb2); (try clear hk); (try clear hi); (try clear ho0)))
                                (try simp only [Act.put, List.setIfInBounds_toArray, List.set_cons_zero, List.set_cons_succ])
                                have H := HZ.out
                                clear HZ
                                by_cases c43 : t451 = true
                                · subst c43
                                  have H1 : (if ((t477 == 0) == t475) = true then (if t477 = 0 then (if ((t502 == 0) == t500) = true then (if t502 = 0 then (some true) else (some (t502 == 5))) else (some false)) else (if t477 = 5 then (if ((t502 == 0) == t500) = true then (if t502 = 0 then (some true) else (some (t502 == 5))) else (some false)) else (some false))) else (some false)) = some r := by rw [if_pos rfl] at H; exact H
                                  clear H
                                  have H := H1
                                  clear H1
                                  by_cases c44 : ((t477 == 0) == t475) = true
                                  · rw [if_pos c44] at H
                                    have d_ := beq_iff_eq.mp c44
                                    have c44b0 : ((t477 == 0) == t475) = true := c44
                                    (try (have c44b1 : decide ((t477 == 0) = t475) = true := by simpa using c44))
                                    (try (have c44b2 : ((t477 == 0) == t475) = true := by simpa using c44))
                                    clear c44
                                    subst d_
                                    by_cases c45 : t477 = 0
                                    · rw [if_pos c45] at H
                                      have c45b0 : (t477 == 0) = true := beq_iff_eq.mpr c45
                                      have c45b1 : (t477 != 0) = false := bne_eq_false_iff_eq.mpr c45
                                      clear c45
                                      by_cases c46 : ((t502 == 0) == t500) = true
                                      · rw [if_pos c46] at H
                                        have d_ := beq_iff_eq.mp c46
                                        have c46b0 : ((t502 == 0) == t500) = true := c46
                                        (try (have c46b1 : decide ((t502 == 0) = t500) = true := by simpa using c46))
                                        (try (have c46b2 : ((t502 == 0) == t500) = true := by simpa using c46))
                                        clear c46
                                        subst d_
                                        by_cases c47 : t502 = 0
                                        · rw [if_pos c47] at H
                                          have c47b0 : (t502 == 0) = true := beq_iff_eq.mpr c47
                                          have c47b1 : (t502 != 0) = false := bne_eq_false_iff_eq.mpr c47
                                          clear c47
                                          obtain rfl := Option.some.inj H
                                          go_wp2
                                          go_ret
                                          exact ⟨by first | rfl | (simp [errW_none, errW_some] <;> rfl) | (simp only [← hji22, ← hji26]; first | rfl | (simp [errW_none, errW_some] <;> rfl)) | (simp [*, errW_none, errW_some] <;> rfl), by repeat (first | (with_reducible first | exact HB.out | apply below_alloc | apply pw_below_drewN | apply below_drew1) | exact HB.out)⟩
                                        · rw [if_neg c47] at H
                                          have c47b0 : (t502 == 0) = false := beq_eq_false_iff_ne.mpr c47
                                          have c47b1 : (t502 != 0) = true := bne_iff_ne.mpr c47
                                          obtain rfl := Option.some.inj H
                                          go_wp2
                                          go_ret
                                          exact ⟨by first | rfl | (simp [errW_none, errW_some] <;> rfl) | (simp only [← hji22, ← hji26]; first | rfl | (simp [errW_none, errW_some] <;> rfl)) | (simp [*, errW_none, errW_some] <;> rfl), by repeat (first | (with_reducible first | exact HB.out | apply below_alloc | apply pw_below_drewN | apply below_drew1) | exact HB.out)⟩
                                      · rw [if_neg c46] at H
                                        have d_ : t500 = !(t502 == 0) := by revert c46; cases t500 <;> cases (t502 == 0) <;> simp
                                        have c46b0 : ((t502 == 0) == t500) = false := by simpa using c46
                                        (try (have c46b1 : decide ((t502 == 0) = t500) = false := by simpa using c46))
                                        (try (have c46b2 : ((t502 == 0) == t500) = false := by simpa using c46))
                                        (try (have c46b3 : ¬ ((t502 == 0) = t500) := by simpa using c46))
                                        clear c46
                                        subst d_
                                        obtain rfl := Option.some.inj H
                                        cases hq_ : (t502 == 0) <;> (go_wp2; go_ret; exact ⟨by first | rfl | (simp [errW_none, errW_some] <;> rfl) | (simp only [← hji22, ← hji26]; first | rfl | (simp [errW_none, errW_some] <;> rfl)) | (simp [*, errW_none, errW_some] <;> rfl), by repeat (first | (with_reducible first | exact HB.out | apply below_alloc | apply pw_below_drewN | apply below_drew1) | exact HB.out)⟩)
                                    · rw [if_neg c45] at H
                                      have c45b0 : (t477 == 0) = false := beq_eq_false_iff_ne.mpr c45
                                      have c45b1 : (t477 != 0) = true := bne_iff_ne.mpr c45
                                      by_cases c120 : t477 = 5
                                      · rw [if_pos c120] at H
                                        have c120b0 : (t477 == 5) = true := beq_iff_eq.mpr c120
                                        have c120b1 : (t477 != 5) = false := bne_eq_false_iff_eq.mpr c120
                                        clear c120
                                        by_cases c121 : ((t502 == 0) == t500) = true
                                        · rw [if_pos c121] at H
                                          have d_ := beq_iff_eq.mp c121
                                          have c121b0 : ((t502 == 0) == t500) = true := c121
                                          (try (have c121b1 : decide ((t502 == 0) = t500) = true := by simpa using c121))
                                          (try (have c121b2 : ((t502 == 0) == t500) = true := by simpa using c121))
                                          clear c121
                                          subst d_
                                          by_cases c122 : t502 = 0
                                          · rw [if_pos c122] at H
                                            have c122b0 : (t502 == 0) = true := beq_iff_eq.mpr c122
                                            have c122b1 : (t502 != 0) = false := bne_eq_false_iff_eq.mpr c122
                                            clear c122
                                            obtain rfl := Option.some.inj H
                                            go_wp2
                                            go_ret
                                            exact ⟨by first | rfl | (simp [errW_none, errW_some] <;> rfl) | (simp only [← hji22, ← hji26]; first | rfl | (simp [errW_none, errW_some] <;> rfl)) | (simp [*, errW_none, errW_some] <;> rfl), by repeat (first | (with_reducible first | exact HB.out | apply below_alloc | apply pw_below_drewN | apply below_drew1) | exact HB.out)⟩
                                          · rw [if_neg c122] at H
                                            have c122b0 : (t502 == 0) = false := beq_eq_false_iff_ne.mpr c122
                                            have c122b1 : (t502 != 0) = true := bne_iff_ne.mpr c122
                                            obtain rfl := Option.some.inj H
                                            go_wp2
                                            go_ret
                                            exact ⟨by first | rfl | (simp [errW_none, errW_some] <;> rfl) | (simp only [← hji22, ← hji26]; first | rfl | (simp [errW_none, errW_some] <;> rfl)) | (simp [*, errW_none, errW_some] <;> rfl), by repeat (first | (with_reducible first | exact HB.out | apply below_alloc | apply pw_below_drewN | apply below_drew1) | exact HB.out)⟩
                                        · rw [if_neg c121] at H
                                          have d_ : t500 = !(t502 == 0) := by revert c121; cases t500 <;> cases (t502 == 0) <;> simp
                                          have c121b0 : ((t502 == 0) == t500) = false := by simpa using c121
                                          (try (have c121b1 : decide ((t502 == 0) = t500) = false := by simpa using c121))
                                          (try (have c121b2 : ((t502 == 0) == t500) = false := by simpa using c121))
                                          (try (have c121b3 : ¬ ((t502 == 0) = t500) := by simpa using c121))
                                          clear c121
                                          subst d_
                                          obtain rfl := Option.some.inj H
                                          cases hq_ : (t502 == 0) <;> (go_wp2; go_ret; exact ⟨by first | rfl | (simp [errW_none, errW_some] <;> rfl) | (simp only [← hji22, ← hji26]; first | rfl | (simp [errW_none, errW_some] <;> rfl)) | (simp [*, errW_none, errW_some] <;> rfl), by repeat (first | (with_reducible first | exact HB.out | apply below_alloc | apply pw_below_drewN | apply below_drew1) | exact HB.out)⟩)
                                      · rw [if_neg c120] at H
                                        have c120b0 : (t477 == 5) = false := beq_eq_false_iff_ne.mpr c120
                                        have c120b1 : (t477 != 5) = true := bne_iff_ne.mpr c120
                                        obtain rfl := Option.some.inj H
                                        go_wp2
                                        go_ret
                                        exact ⟨by first | rfl | (simp [errW_none, errW_some] <;> rfl) | (simp only [← hji22, ← hji26]; first | rfl | (simp [errW_none, errW_some] <;> rfl)) | (simp [*, errW_none, errW_some] <;> rfl), by repeat (first | (with_reducible first | exact HB.out | apply below_alloc | apply pw_below_drewN | apply below_drew1) | exact HB.out)⟩
                                  · rw [if_neg c44] at H
                                    have d_ : t475 = !(t477 == 0) := by revert c44; cases t475 <;> cases (t477 == 0) <;> simp
                                    have c44b0 : ((t477 == 0) == t475) = false := by simpa using c44
                                    (try (have c44b1 : decide ((t477 == 0) = t475) = false := by simpa using c44))
                                    (try (have c44b2 : ((t477 == 0) == t475) = false := by simpa using c44))
                                    (try (have c44b3 : ¬ ((t477 == 0) = t475) := by simpa using c44))
                                    clear c44
                                    subst d_
                                    obtain rfl := Option.some.inj H
                                    cases hq_ : (t477 == 0) <;> (go_wp2; go_ret; exact ⟨by first | rfl | (simp [errW_none, errW_some] <;> rfl) | (simp only [← hji22, ← hji26]; first | rfl | (simp [errW_none, errW_some] <;> rfl)) | (simp [*, errW_none, errW_some] <;> rfl), by repeat (first | (with_reducible first | exact HB.out | apply below_alloc | apply pw_below_drewN | apply below_drew1) | exact HB.out)⟩)
                                · replace c43 := Bool.eq_false_iff.mpr c43
                                  subst c43
                                  have H1 : (some false) = some r := by rw [if_neg (show ¬ (false = true) by decide)] at H; exact H
                                  clear H
                                  have H := H1
                                  clear H1
                                  obtain rfl := Option.some.inj H
                                  go_wp2
                                  go_ret
                                  exact ⟨by first | rfl | (simp [errW_none, errW_some] <;> rfl) | (simp only [← hji22, ← hji26]; first | rfl | (simp [errW_none, errW_some] <;> rfl)) | (simp [*, errW_none, errW_some] <;> rfl), by repeat (first | (with_reducible first | exact HB.out | apply below_alloc | apply pw_below_drewN | apply below_drew1) | exact HB.out)⟩
                              · rw [if_neg c37] at H
                                exact absurd H (by simp)
                            · rw [if_neg c35] at H
                              exact absurd H (by simp)
                          · rw [if_neg c34] at H
                            exact absurd H (by simp)
                        · rw [if_neg c28] at H
                          exact absurd H (by simp)
                      · rw [if_neg c27] at H
                        exact absurd H (by simp)
                    · rw [if_neg c24] at H
                      exact absurd H (by simp)
                  · rw [if_neg c23] at H
                    exact absurd H (by simp)
              · rw [if_neg c20] at H
                exact absurd H (by simp)

theorem casketlaw17_AeadTurned.walk (P : casketlaw17_AeadTurned.Pure) (a0 : Option Addr) (len0 cap0 : Nat) (z0 : List Int) (a1 : Option Addr) (len1 cap1 : Nat) (z1 : List Int) (a2 : Option Addr) (len2 cap2 : Nat) (z2 : List Int) (a3 : Option Addr) (len3 cap3 : Nat) (z3 : List Int) (a4 : Int) (a5 : Int) (w : World) (w0 : (a0 = none ∧ len0 = 0 ∧ cap0 = 0 ∧ z0 = []) ∨ ∃ x, a0 = some x ∧ len0 ≤ cap0 ∧ cap0 ≤ maxLen ∧ z0.length = cap0 ∧ (∀ i, i < z0.length → w.cell? (x.add i) = some (.int .u8 (z0.getD i 0))) ∧ ∀ n ∈ z0, (Lit.int .u8 n).wf = true) (y0 : len0 * 1 ≤ 140737488351232) (w1 : (a1 = none ∧ len1 = 0 ∧ cap1 = 0 ∧ z1 = []) ∨ ∃ x, a1 = some x ∧ len1 ≤ cap1 ∧ cap1 ≤ maxLen ∧ z1.length = cap1 ∧ (∀ i, i < z1.length → w.cell? (x.add i) = some (.int .u8 (z1.getD i 0))) ∧ ∀ n ∈ z1, (Lit.int .u8 n).wf = true) (y1 : len1 * 1 ≤ 140737488351232) (w2 : (a2 = none ∧ len2 = 0 ∧ cap2 = 0 ∧ z2 = []) ∨ ∃ x, a2 = some x ∧ len2 ≤ cap2 ∧ cap2 ≤ maxLen ∧ z2.length = cap2 ∧ (∀ i, i < z2.length → w.cell? (x.add i) = some (.int .u8 (z2.getD i 0))) ∧ ∀ n ∈ z2, (Lit.int .u8 n).wf = true) (y2 : len2 * 1 ≤ 140737488351232) (w3 : (a3 = none ∧ len3 = 0 ∧ cap3 = 0 ∧ z3 = []) ∨ ∃ x, a3 = some x ∧ len3 ≤ cap3 ∧ cap3 ≤ maxLen ∧ z3.length = cap3 ∧ (∀ i, i < z3.length → w.cell? (x.add i) = some (.int .u8 (z3.getD i 0))) ∧ ∀ n ∈ z3, (Lit.int .u8 n).wf = true) (y3 : len3 * 1 ≤ 140737488351232) (w4 : (Lit.int .i64 a4).wf = true) (w5 : (Lit.int .u8 a5).wf = true) :
    Calls Try.prog 18 #[.slice a0 len0 cap0, .slice a1 len1 cap1, .slice a2 len2 cap2, .slice a3 len3 cap3, .int .i64 a4, .int .u8 a5] w fun e w' => e = .returned (.bool true) ∧ Below w.heap.size w w' := by
  obtain ⟨l0, rfl, hr0, hm0, hw0, hc0⟩ := ReadsInt.ofRowC w0
  obtain ⟨l1, rfl, hr1, hm1, hw1, hc1⟩ := ReadsInt.ofRowC w1
  obtain ⟨l2, rfl, hr2, hm2, hw2, hc2⟩ := ReadsInt.ofRowC w2
  obtain ⟨l3, rfl, hr3, hm3, hw3, hc3⟩ := ReadsInt.ofRowC w3
  obtain ⟨k, h⟩ := P l0 l1 l2 l3 a4 a5 hm0 y0 hw0 hm1 y1 hw1 hm2 y2 hw2 hm3 y3 hw3 w4 w5
  refine (casketlaw17_AeadTurned.calls k _ _ l0 _ _ l1 _ _ l2 _ _ l3 a4 a5 true w (Kd.C_of_reads (d := (0 : Int)) (h1 := fun _ => rfl) hr0) hc0 (Kd.C_of_reads (d := (0 : Int)) (h1 := fun _ => rfl) hr1) hc1 (Kd.C_of_reads (d := (0 : Int)) (h1 := fun _ => rfl) hr2) hc2 (Kd.C_of_reads (d := (0 : Int)) (h1 := fun _ => rfl) hr3) hc3 h).mono ?_
  rintro e w' ⟨rfl, hd⟩
  exact ⟨rfl, hd⟩

end Go.Proofs.Ytllaobhheokafaa.Q
