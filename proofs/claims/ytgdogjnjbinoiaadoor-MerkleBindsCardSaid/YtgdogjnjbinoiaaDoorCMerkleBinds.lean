/- What the calls of these Go functions answer (contracts): casketlaw20_MerkleBinds. Each under the conditions that it states. -/
import Derived.Test.YtgdogjnjbinoiaaDoorDshaX
import Derived.Test.YtgdogjnjbinoiaaDoorDclashX
import Derived.Test.YtgdogjnjbinoiaaDoorCfew
import Derived.Test.YtgdogjnjbinoiaaDoorCmerkw
import Derived.Test.YtgdogjnjbinoiaaDoorCmreb
import Derived.Test.YtgdogjnjbinoiaaDoorCref01
import Derived.Test.YtgdogjnjbinoiaaDoorCref20
import Derived.Test.YtgdogjnjbinoiaaDoorCref20p
import Derived.Test.YtgdogjnjbinoiaaDoorDMerkleBinds
import Derived.Test.YtgdogjnjbinoiaaDoorDmerkw
import Derived.Test.YtgdogjnjbinoiaaDoorDmrebX
import Derived.Test.YtgdogjnjbinoiaaDoorDref13
import Derived.Test.YtgdogjnjbinoiaaDoorDref20
namespace Go.Proofs.YtgdogjnjbinoiaaDoor.Q
open Go.RowKit Go.Proofs.YtgdogjnjbinoiaaDoorW.PrintWords Go.Proofs.YtgdogjnjbinoiaaDoorW.PrintLast Go.Proofs.YtgdogjnjbinoiaaDoorW.PrintMore
attribute [local go_sem] max2_int min2_int max_two min_two max_three min_three max_four min_four   -- for this text's walks alone
set_option linter.unusedVariables false
set_option linter.unusedSimpArgs false

/-! ### casketlaw20_MerkleBinds: function 6 -/
def binds_end.T17 : Bool × List (List Nat × List Nat) := (true, [([], []), ([0], [0]), ([1], [1]), ([1, 2], [1, 2]), ([3, 1], [3]), ([4], [4]), ([5, 4], [4, 5]), ([4], [4]), ([7, 4], [4, 7]), ([6, 8, 4, 4], [4, 6, 8]), ([9, 4], [4, 9]), ([4, 10], [4, 10]), ([11, 9], [11]), ([12], [12]), ([13, 12], [12, 13]), ([14, 12, 12], [12, 14]), ([12], [12]), ([16, 12], [12, 16]), ([17, 15, 12], [12, 17]), ([15, 18, 18, 12], [12, 15, 18]), ([12, 19], [12, 19]), ([20, 19, 0, 1, 2, 3, 4, 5, 6, 7, 8, 9, 10, 11, 12, 13, 14, 15, 16, 17, 18, 19, 20], [20])])

def binds_end.B17 : List Nat := [0, 1, 3, 7, 15, 31, 63, 31, 159, 511, 1023, 2047, 4095, 8191, 16383, 32767, 8191, 73727, 262143, 524287, 1048575, 2097151]

theorem binds_end.tab17 : rtab .any (opsOf Tryd.f6 17) = binds_end.T17 := by kernel_rfl

theorem binds_end.bits17 : waitsOk binds_end.T17.2 binds_end.B17 = true := by kernel_rfl

set_option maxHeartbeats 8000000 in
set_option maxRecDepth 100000 in
theorem casketlaw20_MerkleBinds.calls (k : Nat) (a0 : Int) (a1 : Int) (A2 : Option Addr) (c2 : Nat) (l2 : List (List Int)) (A3 : Option Addr) (c3 : Nat) (l3 : List (List Int)) (A4 : Option Addr) (c4 : Nat) (l4 : List (List Int)) (A5 : Option Addr) (c5 : Nat) (l5 : List (List Int)) (w : World) (hr2 : Kd.C (Kd.slice 5 (Kd.int .u8)) w A2 l2.length l2) (hc2 : l2.length ≤ c2) (hr3 : Kd.C (Kd.slice 5 (Kd.int .u8)) w A3 l3.length l3) (hc3 : l3.length ≤ c3) (hr4 : Kd.C (Kd.slice 5 (Kd.int .u8)) w A4 l4.length l4) (hc4 : l4.length ≤ c4) (hr5 : Kd.C (Kd.slice 5 (Kd.int .u8)) w A5 l5.length l5) (hc5 : l5.length ≤ c5) (h : casketlaw20_MerkleBinds.f k a0 a1 l2 l3 l4 l5 = some true) (htab : TabAt w) :
    Calls Tryd.prog 6 #[.int .i64 a0, .int .i64 a1, .slice A2 l2.length c2, .slice A3 l3.length c3, .slice A4 l4.length c4, .slice A5 l5.length c5] w fun e w' => e = .returned (.bool true) ∧ Below w.heap.size w w' := by
  have HTAB := Aside0.mk htab
  clear htab
  have hu42 := Tryd.underlying42
  have HR2 := Aside0.mk hr2
  have HC2 := Aside0.mk hc2
  clear hr2 hc2
  have HR3 := Aside0.mk hr3
  have HC3 := Aside0.mk hc3
  clear hr3 hc3
  have HR4 := Aside0.mk hr4
  have HC4 := Aside0.mk hc4
  clear hr4 hc4
  have HR5 := Aside0.mk hr5
  have HC5 := Aside0.mk hc5
  clear hr5 hc5
  have HB := Aside0.mk (Below.refl w.heap.size w)
  have H : ((casketlaw20_awake.f k).bind fun t371 => ((casketlaw20_few.f k l2 40).bind fun t372 => (if t372 = true then ((casketlaw20_few.f k l3 40).bind fun t373 => (if t373 = true then ((casketlaw20_few.f k l4 60).bind fun t374 => (if t374 = true then ((casketlaw20_few.f k l5 60).bind fun t375 => (if t375 = true then (casketlaw20_MerkleBinds.j0 k a0 a1 l2 l3 l4 l5 t371 ((l2.length : Int) != (l3.length : Int))) else (casketlaw20_MerkleBinds.j0 k a0 a1 l2 l3 l4 l5 t371 true))) else (casketlaw20_MerkleBinds.j0 k a0 a1 l2 l3 l4 l5 t371 true))) else (casketlaw20_MerkleBinds.j0 k a0 a1 l2 l3 l4 l5 t371 true))) else (casketlaw20_MerkleBinds.j0 k a0 a1 l2 l3 l4 l5 t371 true)))) = some true := h
  clear h
  replace H := Option.bind_eq_some_iff.mp H
  obtain ⟨t371, A70, H⟩ := H
  replace H : ((casketlaw20_few.f k l2 40).bind fun t372 => (if t372 = true then ((casketlaw20_few.f k l3 40).bind fun t373 => (if t373 = true then ((casketlaw20_few.f k l4 60).bind fun t374 => (if t374 = true then ((casketlaw20_few.f k l5 60).bind fun t375 => (if t375 = true then (casketlaw20_MerkleBinds.j0 k a0 a1 l2 l3 l4 l5 t371 ((l2.length : Int) != (l3.length : Int))) else (casketlaw20_MerkleBinds.j0 k a0 a1 l2 l3 l4 l5 t371 true))) else (casketlaw20_MerkleBinds.j0 k a0 a1 l2 l3 l4 l5 t371 true))) else (casketlaw20_MerkleBinds.j0 k a0 a1 l2 l3 l4 l5 t371 true))) else (casketlaw20_MerkleBinds.j0 k a0 a1 l2 l3 l4 l5 t371 true))) = some true := H
  have A7 := Aside0.mk A70
  clear A70
  have HC8 := Aside0.mk H
  clear H
  go_enter Tryd.func6, Tryd.ntmps6
  go_upto_region 2 with (first | ((with_reducible refine gate_callee (f := 10) rfl ?_); refine goesL_ (some 25) rfl rfl Tryd.func10 (by kernel_rfl) rfl #[] rfl (by (try simp only [List.map_toArray, List.map_cons, List.map_nil]); first | done | rfl | (simp only [List.length_drop, List.length_take]; rfl)) ?_; (with_reducible refine (casketlaw20_awake.calls k  t371 _ A7.out ?sideT).mono ?_); (case sideT => exact TabAt.below HTAB.out (by repeat (first | (with_reducible first | exact HB.out | apply below_alloc | apply pw_below_drewN | apply below_drew1) | exact HB.out)) (Nat.le_refl _)); rintro e w9 ⟨rfl, hb⟩; refine ⟨_, rfl, ?_⟩; have n0_ := Aside0.mk (below_step (by repeat (first | (with_reducible first | exact HB.out | apply below_alloc | apply pw_below_drewN | apply below_drew1) | exact HB.out)) hb); clear HB; have HB := n0_; clear n0_; (try clear hb); (try clear hb2); (try clear hk); (try clear hi)))
  (try simp only [Act.put, List.setIfInBounds_toArray, List.set_cons_zero, List.set_cons_succ])
  go_cut [50] (fun v50 wc => ∃ (kq : Nat) (x50_7 : Bool), v50 = .bool x50_7 ∧ Aside0 (casketlaw20_MerkleBinds.j0 kq a0 a1 l2 l3 l4 l5 t371 x50_7 = some true) ∧ Aside0 (kq ≤ k) ∧ Aside0 (Below w.heap.size w wc))
  case first => as_aux_lemma =>
    have H := HC8.out
    clear HC8
    replace H := Option.bind_eq_some_iff.mp H
    obtain ⟨t372, A100, H⟩ := H
    replace H : (if t372 = true then ((casketlaw20_few.f k l3 40).bind fun t373 => (if t373 = true then ((casketlaw20_few.f k l4 60).bind fun t374 => (if t374 = true then ((casketlaw20_few.f k l5 60).bind fun t375 => (if t375 = true then (casketlaw20_MerkleBinds.j0 k a0 a1 l2 l3 l4 l5 t371 ((l2.length : Int) != (l3.length : Int))) else (casketlaw20_MerkleBinds.j0 k a0 a1 l2 l3 l4 l5 t371 true))) else (casketlaw20_MerkleBinds.j0 k a0 a1 l2 l3 l4 l5 t371 true))) else (casketlaw20_MerkleBinds.j0 k a0 a1 l2 l3 l4 l5 t371 true))) else (casketlaw20_MerkleBinds.j0 k a0 a1 l2 l3 l4 l5 t371 true)) = some true := H
    have A10 := Aside0.mk A100
    clear A100
    by_cases c11 : t372 = true
    · subst c11
      have H1 : ((casketlaw20_few.f k l3 40).bind fun t373 => (if t373 = true then ((casketlaw20_few.f k l4 60).bind fun t374 => (if t374 = true then ((casketlaw20_few.f k l5 60).bind fun t375 => (if t375 = true then (casketlaw20_MerkleBinds.j0 k a0 a1 l2 l3 l4 l5 t371 ((l2.length : Int) != (l3.length : Int))) else (casketlaw20_MerkleBinds.j0 k a0 a1 l2 l3 l4 l5 t371 true))) else (casketlaw20_MerkleBinds.j0 k a0 a1 l2 l3 l4 l5 t371 true))) else (casketlaw20_MerkleBinds.j0 k a0 a1 l2 l3 l4 l5 t371 true))) = some true := by rw [if_pos rfl] at H; exact H
      clear H
      have H := H1
      clear H1
      replace H := Option.bind_eq_some_iff.mp H
      obtain ⟨t373, A120, H⟩ := H
      replace H : (if t373 = true then ((casketlaw20_few.f k l4 60).bind fun t374 => (if t374 = true then ((casketlaw20_few.f k l5 60).bind fun t375 => (if t375 = true then (casketlaw20_MerkleBinds.j0 k a0 a1 l2 l3 l4 l5 t371 ((l2.length : Int) != (l3.length : Int))) else (casketlaw20_MerkleBinds.j0 k a0 a1 l2 l3 l4 l5 t371 true))) else (casketlaw20_MerkleBinds.j0 k a0 a1 l2 l3 l4 l5 t371 true))) else (casketlaw20_MerkleBinds.j0 k a0 a1 l2 l3 l4 l5 t371 true)) = some true := H
      have A12 := Aside0.mk A120
      clear A120
      by_cases c13 : t373 = true
      · subst c13
        have H1 : ((casketlaw20_few.f k l4 60).bind fun t374 => (if t374 = true then ((casketlaw20_few.f k l5 60).bind fun t375 => (if t375 = true then (casketlaw20_MerkleBinds.j0 k a0 a1 l2 l3 l4 l5 t371 ((l2.length : Int) != (l3.length : Int))) else (casketlaw20_MerkleBinds.j0 k a0 a1 l2 l3 l4 l5 t371 true))) else (casketlaw20_MerkleBinds.j0 k a0 a1 l2 l3 l4 l5 t371 true))) = some true := by rw [if_pos rfl] at H; exact H
        clear H
        have H := H1
        clear H1
        replace H := Option.bind_eq_some_iff.mp H
        obtain ⟨t374, A140, H⟩ := H
        replace H : (if t374 = true then ((casketlaw20_few.f k l5 60).bind fun t375 => (if t375 = true then (casketlaw20_MerkleBinds.j0 k a0 a1 l2 l3 l4 l5 t371 ((l2.length : Int) != (l3.length : Int))) else (casketlaw20_MerkleBinds.j0 k a0 a1 l2 l3 l4 l5 t371 true))) else (casketlaw20_MerkleBinds.j0 k a0 a1 l2 l3 l4 l5 t371 true)) = some true := H
        have A14 := Aside0.mk A140
        clear A140
        by_cases c15 : t374 = true
        · subst c15
          have H1 : ((casketlaw20_few.f k l5 60).bind fun t375 => (if t375 = true then (casketlaw20_MerkleBinds.j0 k a0 a1 l2 l3 l4 l5 t371 ((l2.length : Int) != (l3.length : Int))) else (casketlaw20_MerkleBinds.j0 k a0 a1 l2 l3 l4 l5 t371 true))) = some true := by rw [if_pos rfl] at H; exact H
          clear H
          have H := H1
          clear H1
          replace H := Option.bind_eq_some_iff.mp H
          obtain ⟨t375, A160, H⟩ := H
          replace H : (if t375 = true then (casketlaw20_MerkleBinds.j0 k a0 a1 l2 l3 l4 l5 t371 ((l2.length : Int) != (l3.length : Int))) else (casketlaw20_MerkleBinds.j0 k a0 a1 l2 l3 l4 l5 t371 true)) = some true := H
          have A16 := Aside0.mk A160
          clear A160
          by_cases c17 : t375 = true
          · subst c17
            have H1 : (casketlaw20_MerkleBinds.j0 k a0 a1 l2 l3 l4 l5 t371 ((l2.length : Int) != (l3.length : Int))) = some true := by rw [if_pos rfl] at H; exact H
            clear H
            have H := H1
            clear H1
            have H' := Aside0.mk H
            clear H
            go_wp2_with (first | ((with_reducible refine gate_callee (f := 11) rfl ?_); refine goesL_ (some 27) rfl rfl Tryd.func11 (by kernel_rfl) rfl #[.slice A2 l2.length c2, .int .i64 40] rfl (by (try simp only [List.map_toArray, List.map_cons, List.map_nil]); first | done | rfl | (simp only [List.length_drop, List.length_take]; rfl)) ?_; (with_reducible refine (casketlaw20_few.calls k _ _ l2 40 true _ ?side1 ?side2 A10.out).mono ?_); (case side1 => repeat (first | exact (Kd.C_below HR2.out HB.out) | (with_reducible refine Kd.C_alloc ?_ _) | (with_reducible refine Kd.C_drewN ?_ _) | (with_reducible refine Kd.C_drew ?_))); (case side2 => exact HC2.out); rintro e w' ⟨rfl, ⟨nd, rfl⟩⟩; refine ⟨_, rfl, ?_⟩) | (go_at_call 11; (with_reducible refine (casketlaw20_few.calls k _ _ l3 40 true _ ?side1 ?side2 A12.out).mono ?_); (case side1 => repeat (first | exact (Kd.C_below HR3.out (by repeat (first | (with_reducible first | exact HB.out | apply below_alloc | apply pw_below_drewN | apply below_drew1) | exact HB.out))) | (with_reducible refine Kd.C_alloc ?_ _) | (with_reducible refine Kd.C_drewN ?_ _) | (with_reducible refine Kd.C_drew ?_))); (case side2 => exact HC3.out); rintro e w' ⟨rfl, ⟨nd, rfl⟩⟩) | (go_at_call 11; (with_reducible refine (casketlaw20_few.calls k _ _ l4 60 true _ ?side1 ?side2 A14.out).mono ?_); (case side1 => repeat (first | exact (Kd.C_below HR4.out (by repeat (first | (with_reducible first | exact HB.out | apply below_alloc | apply pw_below_drewN | apply below_drew1) | exact HB.out))) | (with_reducible refine Kd.C_alloc ?_ _) | (with_reducible refine Kd.C_drewN ?_ _) | (with_reducible refine Kd.C_drew ?_))); (case side2 => exact HC4.out); rintro e w' ⟨rfl, ⟨nd, rfl⟩⟩) | (go_at_call 11; (with_reducible refine (casketlaw20_few.calls k _ _ l5 60 true _ ?side1 ?side2 A16.out).mono ?_); (case side1 => repeat (first | exact (Kd.C_below HR5.out (by repeat (first | (with_reducible first | exact HB.out | apply below_alloc | apply pw_below_drewN | apply below_drew1) | exact HB.out))) | (with_reducible refine Kd.C_alloc ?_ _) | (with_reducible refine Kd.C_drewN ?_ _) | (with_reducible refine Kd.C_drew ?_))); (case side2 => exact HC5.out); rintro e w' ⟨rfl, ⟨nd, rfl⟩⟩))
            go_meet
            case rel => exact ⟨_, (((l2.length : Int) != (l3.length : Int))), (by first | rfl | (simp; done) | (simp [*]; done)), H', ⟨by first | exact Nat.le_refl _ | exact Nat.le_of_succ_le (by assumption) | omega⟩, ⟨by repeat (first | (with_reducible first | exact HB.out | apply below_alloc | apply pw_below_drewN | apply below_drew1) | exact HB.out)⟩⟩
          · replace c17 := Bool.eq_false_iff.mpr c17
            subst c17
            have H1 : (casketlaw20_MerkleBinds.j0 k a0 a1 l2 l3 l4 l5 t371 true) = some true := by rw [if_neg (show ¬ (false = true) by decide)] at H; exact H
            clear H
            have H := H1
            clear H1
            have H' := Aside0.mk H
            clear H
            go_wp2_with (first | ((with_reducible refine gate_callee (f := 11) rfl ?_); refine goesL_ (some 27) rfl rfl Tryd.func11 (by kernel_rfl) rfl #[.slice A2 l2.length c2, .int .i64 40] rfl (by (try simp only [List.map_toArray, List.map_cons, List.map_nil]); first | done | rfl | (simp only [List.length_drop, List.length_take]; rfl)) ?_; (with_reducible refine (casketlaw20_few.calls k _ _ l2 40 true _ ?side1 ?side2 A10.out).mono ?_); (case side1 => repeat (first | exact (Kd.C_below HR2.out HB.out) | (with_reducible refine Kd.C_alloc ?_ _) | (with_reducible refine Kd.C_drewN ?_ _) | (with_reducible refine Kd.C_drew ?_))); (case side2 => exact HC2.out); rintro e w' ⟨rfl, ⟨nd, rfl⟩⟩; refine ⟨_, rfl, ?_⟩) | (go_at_call 11; (with_reducible refine (casketlaw20_few.calls k _ _ l3 40 true _ ?side1 ?side2 A12.out).mono ?_); (case side1 => repeat (first | exact (Kd.C_below HR3.out (by repeat (first | (with_reducible first | exact HB.out | apply below_alloc | apply pw_below_drewN | apply below_drew1) | exact HB.out))) | (with_reducible refine Kd.C_alloc ?_ _) | (with_reducible refine Kd.C_drewN ?_ _) | (with_reducible refine Kd.C_drew ?_))); (case side2 => exact HC3.out); rintro e w' ⟨rfl, ⟨nd, rfl⟩⟩) | (go_at_call 11; (with_reducible refine (casketlaw20_few.calls k _ _ l4 60 true _ ?side1 ?side2 A14.out).mono ?_); (case side1 => repeat (first | exact (Kd.C_below HR4.out (by repeat (first | (with_reducible first | exact HB.out | apply below_alloc | apply pw_below_drewN | apply below_drew1) | exact HB.out))) | (with_reducible refine Kd.C_alloc ?_ _) | (with_reducible refine Kd.C_drewN ?_ _) | (with_reducible refine Kd.C_drew ?_))); (case side2 => exact HC4.out); rintro e w' ⟨rfl, ⟨nd, rfl⟩⟩) | (go_at_call 11; (with_reducible refine (casketlaw20_few.calls k _ _ l5 60 false _ ?side1 ?side2 A16.out).mono ?_); (case side1 => repeat (first | exact (Kd.C_below HR5.out (by repeat (first | (with_reducible first | exact HB.out | apply below_alloc | apply pw_below_drewN | apply below_drew1) | exact HB.out))) | (with_reducible refine Kd.C_alloc ?_ _) | (with_reducible refine Kd.C_drewN ?_ _) | (with_reducible refine Kd.C_drew ?_))); (case side2 => exact HC5.out); rintro e w' ⟨rfl, ⟨nd, rfl⟩⟩))
            go_meet
            case rel => exact ⟨_, (true), (by first | rfl | (simp; done) | (simp [*]; done)), H', ⟨by first | exact Nat.le_refl _ | exact Nat.le_of_succ_le (by assumption) | omega⟩, ⟨by repeat (first | (with_reducible first | exact HB.out | apply below_alloc | apply pw_below_drewN | apply below_drew1) | exact HB.out)⟩⟩
        · replace c15 := Bool.eq_false_iff.mpr c15
          subst c15
          have H1 : (casketlaw20_MerkleBinds.j0 k a0 a1 l2 l3 l4 l5 t371 true) = some true := by rw [if_neg (show ¬ (false = true) by decide)] at H; exact H
          clear H
          have H := H1
          clear H1
          have H' := Aside0.mk H
          clear H
          go_wp2_with (first | ((with_reducible refine gate_callee (f := 11) rfl ?_); refine goesL_ (some 27) rfl rfl Tryd.func11 (by kernel_rfl) rfl #[.slice A2 l2.length c2, .int .i64 40] rfl (by (try simp only [List.map_toArray, List.map_cons, List.map_nil]); first | done | rfl | (simp only [List.length_drop, List.length_take]; rfl)) ?_; (with_reducible refine (casketlaw20_few.calls k _ _ l2 40 true _ ?side1 ?side2 A10.out).mono ?_); (case side1 => repeat (first | exact (Kd.C_below HR2.out HB.out) | (with_reducible refine Kd.C_alloc ?_ _) | (with_reducible refine Kd.C_drewN ?_ _) | (with_reducible refine Kd.C_drew ?_))); (case side2 => exact HC2.out); rintro e w' ⟨rfl, ⟨nd, rfl⟩⟩; refine ⟨_, rfl, ?_⟩) | (go_at_call 11; (with_reducible refine (casketlaw20_few.calls k _ _ l3 40 true _ ?side1 ?side2 A12.out).mono ?_); (case side1 => repeat (first | exact (Kd.C_below HR3.out (by repeat (first | (with_reducible first | exact HB.out | apply below_alloc | apply pw_below_drewN | apply below_drew1) | exact HB.out))) | (with_reducible refine Kd.C_alloc ?_ _) | (with_reducible refine Kd.C_drewN ?_ _) | (with_reducible refine Kd.C_drew ?_))); (case side2 => exact HC3.out); rintro e w' ⟨rfl, ⟨nd, rfl⟩⟩) | (go_at_call 11; (with_reducible refine (casketlaw20_few.calls k _ _ l4 60 false _ ?side1 ?side2 A14.out).mono ?_); (case side1 => repeat (first | exact (Kd.C_below HR4.out (by repeat (first | (with_reducible first | exact HB.out | apply below_alloc | apply pw_below_drewN | apply below_drew1) | exact HB.out))) | (with_reducible refine Kd.C_alloc ?_ _) | (with_reducible refine Kd.C_drewN ?_ _) | (with_reducible refine Kd.C_drew ?_))); (case side2 => exact HC4.out); rintro e w' ⟨rfl, ⟨nd, rfl⟩⟩))
          go_meet
          case rel => exact ⟨_, (true), (by first | rfl | (simp; done) | (simp [*]; done)), H', ⟨by first | exact Nat.le_refl _ | exact Nat.le_of_succ_le (by assumption) | omega⟩, ⟨by repeat (first | (with_reducible first | exact HB.out | apply below_alloc | apply pw_below_drewN | apply below_drew1) | exact HB.out)⟩⟩
      · replace c13 := Bool.eq_false_iff.mpr c13
        subst c13
        have H1 : (casketlaw20_MerkleBinds.j0 k a0 a1 l2 l3 l4 l5 t371 true) = some true := by rw [if_neg (show ¬ (false = true) by decide)] at H; exact H
        clear H
        have H := H1
        clear H1
        have H' := Aside0.mk H
        clear H
        go_wp2_with (first | ((with_reducible refine gate_callee (f := 11) rfl ?_); refine goesL_ (some 27) rfl rfl Tryd.func11 (by kernel_rfl) rfl #[.slice A2 l2.length c2, .int .i64 40] rfl (by (try simp only [List.map_toArray, List.map_cons, List.map_nil]); first | done | rfl | (simp only [List.length_drop, List.length_take]; rfl)) ?_; (with_reducible refine (casketlaw20_few.calls k _ _ l2 40 true _ ?side1 ?side2 A10.out).mono ?_); (case side1 => repeat (first | exact (Kd.C_below HR2.out HB.out) | (with_reducible refine Kd.C_alloc ?_ _) | (with_reducible refine Kd.C_drewN ?_ _) | (with_reducible refine Kd.C_drew ?_))); (case side2 => exact HC2.out); rintro e w' ⟨rfl, ⟨nd, rfl⟩⟩; refine ⟨_, rfl, ?_⟩) | (go_at_call 11; (with_reducible refine (casketlaw20_few.calls k _ _ l3 40 false _ ?side1 ?side2 A12.out).mono ?_); (case side1 => repeat (first | exact (Kd.C_below HR3.out (by repeat (first | (with_reducible first | exact HB.out | apply below_alloc | apply pw_below_drewN | apply below_drew1) | exact HB.out))) | (with_reducible refine Kd.C_alloc ?_ _) | (with_reducible refine Kd.C_drewN ?_ _) | (with_reducible refine Kd.C_drew ?_))); (case side2 => exact HC3.out); rintro e w' ⟨rfl, ⟨nd, rfl⟩⟩))
        go_meet
        case rel => exact ⟨_, (true), (by first | rfl | (simp; done) | (simp [*]; done)), H', ⟨by first | exact Nat.le_refl _ | exact Nat.le_of_succ_le (by assumption) | omega⟩, ⟨by repeat (first | (with_reducible first | exact HB.out | apply below_alloc | apply pw_below_drewN | apply below_drew1) | exact HB.out)⟩⟩
    · replace c11 := Bool.eq_false_iff.mpr c11
      subst c11
      have H1 : (casketlaw20_MerkleBinds.j0 k a0 a1 l2 l3 l4 l5 t371 true) = some true := by rw [if_neg (show ¬ (false = true) by decide)] at H; exact H
      clear H
      have H := H1
      clear H1
      have H' := Aside0.mk H
      clear H
      go_wp2_with (first | ((with_reducible refine gate_callee (f := 11) rfl ?_); refine goesL_ (some 27) rfl rfl Tryd.func11 (by kernel_rfl) rfl #[.slice A2 l2.length c2, .int .i64 40] rfl (by (try simp only [List.map_toArray, List.map_cons, List.map_nil]); first | done | rfl | (simp only [List.length_drop, List.length_take]; rfl)) ?_; (with_reducible refine (casketlaw20_few.calls k _ _ l2 40 false _ ?side1 ?side2 A10.out).mono ?_); (case side1 => repeat (first | exact (Kd.C_below HR2.out HB.out) | (with_reducible refine Kd.C_alloc ?_ _) | (with_reducible refine Kd.C_drewN ?_ _) | (with_reducible refine Kd.C_drew ?_))); (case side2 => exact HC2.out); rintro e w' ⟨rfl, ⟨nd, rfl⟩⟩; refine ⟨_, rfl, ?_⟩))
      go_meet
      case rel => exact ⟨_, (true), (by first | rfl | (simp; done) | (simp [*]; done)), H', ⟨by first | exact Nat.le_refl _ | exact Nat.le_of_succ_le (by assumption) | omega⟩, ⟨by repeat (first | (with_reducible first | exact HB.out | apply below_alloc | apply pw_below_drewN | apply below_drew1) | exact HB.out)⟩⟩
  case rest => as_aux_lemma =>
    clear HC8
    try clear c1
    try clear c2
    try clear p2
    try clear c3
    try clear c4
    try clear c5
    try clear c6
    try clear c10
    try clear c11
    try clear c13
    try clear c15
    try clear c17
    obtain ⟨kq, x50_7, rfl, HA, HJ7, HB⟩ := hcut
    cases kq with
    | zero => exact absurd HA.out (by simp [casketlaw20_MerkleBinds.j0])
    | succ kj7 =>
      have H := HA.out
      clear HA
      simp only [casketlaw20_MerkleBinds.j0] at H
      by_cases c18 : x50_7 = true
      · subst c18
        have H1 : (some t371) = some true := by rw [if_pos rfl] at H; exact H
        clear H
        have H := H1
        clear H1
        obtain rfl := Option.some.inj H
        go_wp2
        go_ret
        exact ⟨by first | rfl | (simp [errW_none, errW_some] <;> rfl) | (simp [*, errW_none, errW_some] <;> rfl), by repeat (first | (with_reducible first | exact HB.out | apply below_alloc | apply pw_below_drewN | apply below_drew1) | exact HB.out)⟩
      · replace c18 := Bool.eq_false_iff.mpr c18
        subst c18
        have H1 : (if l2.length + l3.length + l4.length + l5.length < 1000000 then casketlaw20_MerkleBinds.l0 kj7 a0 a1 l2 l3 l4 l5 t371 ((((([] : List (List Int)) ++ l2) ++ l3) ++ l4) ++ l5) 0 else none) = some true := by rw [if_neg (show ¬ (false = true) by decide)] at H; exact H
        clear H
        have H := H1
        clear H1
        have ca1 : l2.length + l3.length + l4.length + l5.length < 1000000 := by
          by_cases ca1 : l2.length + l3.length + l4.length + l5.length < 1000000
          · exact ca1
          · rw [if_neg ca1] at H
            exact absurd H (by simp)
        rw [if_pos ca1] at H
        have LMa := Aside0.mk ca1
        clear ca1
        obtain ⟨yall, hyall⟩ : ∃ y_ : List (List Int), y_ = ((((([] : List (List Int)) ++ l2) ++ l3) ++ l4) ++ l5) := ⟨_, rfl⟩
        rw [← hyall] at H
        have H' := Aside0.mk H
        clear H
        have Nyall := Aside0.mk hyall
        clear hyall
        go_wp2_with (first | ((with_reducible refine gate_dst (N := 52) rfl ?_); refine Kd.N_lit (Kd.slice 5 (Kd.int .u8)) _ 31 ?hg (N' := 52) ?hd (xs := ([] : List (List Int))) (inner := []) (ok := (fun _ => True)) (okp := (fun _ => True)) ?hr ?hp (fun _ hk => hk) trivial (Below.refl _ _) (Nat.le_refl _) (by simp) ?_; (case hd => rfl); (case hg => rfl); (case hr => first | (go_simp; done) | (go_simp; rfl)); (case hp => exact (Reps.none _ _)); intro va1 wa1 ho hb hg_ hnew_; clear hg_ hnew_; have n0_ := Aside0.mk (Kd.N_lower ho (below_size HB.out)); have n1_ := Aside0.mk (below_step HB.out hb); clear HB; have HOa := n0_; have HB := n1_; clear n0_ n1_ hb ho) | ((with_reducible refine gate_builtin (b := .append) (xs := #[.tmp 52, .tmp 53]) rfl ?_); at_builtin; refine Kd.N_append_rows (Kd.slice 5 (Kd.int .u8)) (w0 := w) w.heap.size rfl (.tmp 52) (.tmp 53) 22 31 (.slice none 0 0) 24 rfl Tryd.underlying22 info31 rfl (by decide) (by omega) va1 (([] : List (List Int))) l2 _ _ _ (fun _ => True) (fun k_ => k_ < w.heap.size) rfl rfl HOa.out ?aR ?aK (fun _ _ => trivial) HB.out (below_size HB.out) ?aL ?_; (case aR => exact Kd.F_below (Kd.C_F (Kd.heap_slice _ (Kd.heap_int _)) HR2.out) HB.out); (case aK => exact fun k_ hk_ => ⟨trivial, fun he_ => Nat.lt_irrefl _ (Nat.lt_of_lt_of_le hk_ (Kd.N_base HOa.out k_ he_.symm))⟩); (case aL => have := LMa.out; simp only [List.length_append, List.length_nil]; omega); intro va2 wa2 ho hb hg hat; clear hg hat HB HOa; have HB := Aside0.mk hb; have HOa := Aside0.mk ho; clear hb ho) | ((with_reducible refine gate_builtin (b := .append) (xs := #[.tmp 54, .tmp 55]) rfl ?_); at_builtin; refine Kd.N_append_rows (Kd.slice 5 (Kd.int .u8)) (w0 := w) w.heap.size rfl (.tmp 54) (.tmp 55) 22 31 (.slice none 0 0) 24 rfl Tryd.underlying22 info31 rfl (by decide) (by omega) va2 (([] : List (List Int)) ++ l2) l3 _ _ _ (fun _ => True) (fun k_ => k_ < w.heap.size) rfl rfl HOa.out ?aR ?aK (fun _ _ => trivial) HB.out (below_size HB.out) ?aL ?_; (case aR => exact Kd.F_below (Kd.C_F (Kd.heap_slice _ (Kd.heap_int _)) HR3.out) HB.out); (case aK => exact fun k_ hk_ => ⟨trivial, fun he_ => Nat.lt_irrefl _ (Nat.lt_of_lt_of_le hk_ (Kd.N_base HOa.out k_ he_.symm))⟩); (case aL => have := LMa.out; simp only [List.length_append, List.length_nil]; omega); intro va3 wa3 ho hb hg hat; clear hg hat HB HOa; have HB := Aside0.mk hb; have HOa := Aside0.mk ho; clear hb ho) | ((with_reducible refine gate_builtin (b := .append) (xs := #[.tmp 56, .tmp 57]) rfl ?_); at_builtin; refine Kd.N_append_rows (Kd.slice 5 (Kd.int .u8)) (w0 := w) w.heap.size rfl (.tmp 56) (.tmp 57) 22 31 (.slice none 0 0) 24 rfl Tryd.underlying22 info31 rfl (by decide) (by omega) va3 ((([] : List (List Int)) ++ l2) ++ l3) l4 _ _ _ (fun _ => True) (fun k_ => k_ < w.heap.size) rfl rfl HOa.out ?aR ?aK (fun _ _ => trivial) HB.out (below_size HB.out) ?aL ?_; (case aR => exact Kd.F_below (Kd.C_F (Kd.heap_slice _ (Kd.heap_int _)) HR4.out) HB.out); (case aK => exact fun k_ hk_ => ⟨trivial, fun he_ => Nat.lt_irrefl _ (Nat.lt_of_lt_of_le hk_ (Kd.N_base HOa.out k_ he_.symm))⟩); (case aL => have := LMa.out; simp only [List.length_append, List.length_nil]; omega); intro va4 wa4 ho hb hg hat; clear hg hat HB HOa; have HB := Aside0.mk hb; have HOa := Aside0.mk ho; clear hb ho) | ((with_reducible refine gate_builtin (b := .append) (xs := #[.tmp 58, .tmp 59]) rfl ?_); at_builtin; refine Kd.N_append_rows (Kd.slice 5 (Kd.int .u8)) (w0 := w) w.heap.size rfl (.tmp 58) (.tmp 59) 22 31 (.slice none 0 0) 24 rfl Tryd.underlying22 info31 rfl (by decide) (by omega) va4 (((([] : List (List Int)) ++ l2) ++ l3) ++ l4) l5 _ _ _ (fun _ => True) (fun k_ => k_ < w.heap.size) rfl rfl HOa.out ?aR ?aK (fun _ _ => trivial) HB.out (below_size HB.out) ?aL ?_; (case aR => exact Kd.F_below (Kd.C_F (Kd.heap_slice _ (Kd.heap_int _)) HR5.out) HB.out); (case aK => exact fun k_ hk_ => ⟨trivial, fun he_ => Nat.lt_irrefl _ (Nat.lt_of_lt_of_le hk_ (Kd.N_base HOa.out k_ he_.symm))⟩); (case aL => have := LMa.out; simp only [List.length_append, List.length_nil]; omega); intro va5 wa5 ho hb hg hat; clear hg hat HB HOa; have HB := Aside0.mk hb; have HOa := Aside0.mk ho; clear hb ho))
        replace HOa := Aside0.mk (Nyall.out ▸ HOa.out)
        obtain ⟨Aal, cal, eal⟩ := Kd.N_slice HOa.out
        subst eal
        have HRal := Aside0.mk (Kd.N_reads' HOa.out).2.2
        clear HOa
        go_loopg [15] kj7 (fun kq v15 w' => ∃ (x15_2 : Int), v15 = .int .i64 x15_2 ∧ Aside0 (casketlaw20_MerkleBinds.l0 kq a0 a1 l2 l3 l4 l5 t371 yall x15_2 = some true) ∧ Aside0 (kq ≤ kj7) ∧ Aside0 (Below w.heap.size w w') ∧ Aside0 (Kd.C (Kd.slice 5 (Kd.int .u8)) w' Aal yall.length yall))
        case atStart => exact ⟨(0), (by first | rfl | (simp; done) | (simp [*]; done)), H', ⟨Nat.le_refl _⟩, ⟨by repeat (first | (with_reducible first | exact HB.out | apply below_alloc | apply pw_below_drewN | apply below_drew1) | exact HB.out)⟩, ⟨HRal.out⟩⟩
        case round => as_aux_lemma =>
          clear H'
          try clear c1
          try clear c2
          try clear p2
          try clear c3
          try clear c4
          try clear c5
          try clear c6
          try clear c10
          try clear c11
          try clear c13
          try clear c15
          try clear c17
          try clear c18
          try clear p2
          clear HRal
          obtain ⟨x15_2, rfl, HA, HK2, HB, HRal⟩ := hrel
          cases gk with
          | zero => exact absurd HA.out (by simp [casketlaw20_MerkleBinds.l0])
          | succ k2 =>
            have H := HA.out
            clear HA
            simp only [casketlaw20_MerkleBinds.l0] at H
            by_cases c19 : x15_2 < (yall.length : Int)
            · rw [if_pos c19] at H
              have c19b0 : decide (x15_2 < (yall.length : Int)) = true := decide_eq_true c19
              clear c19
              by_cases c20 : 0 ≤ x15_2
              · rw [if_pos c20] at H
                have c20b0 : decide (0 ≤ x15_2) = true := decide_eq_true c20
                clear c20
                by_cases c21 : ((rd_L1 yall x15_2).length : Int) = 32
                · rw [if_pos c21] at H
                  have c21b0 : (((rd_L1 yall x15_2).length : Int) == 32) = true := beq_iff_eq.mpr c21
                  have c21b1 : (((rd_L1 yall x15_2).length : Int) != 32) = false := bne_eq_false_iff_eq.mpr c21
                  clear c21
                  have H' := Aside0.mk H
                  clear H
                  have p376 : 0 ≤ (x15_2 : Int) := of_decide_eq_true (by first | (with_reducible assumption) | assumption)
                  have q376 : x15_2 < (yall.length : Int) := of_decide_eq_true (by first | (with_reducible assumption) | assumption)
                  obtain ⟨ad376, A376_0, c376_0, e376, hx376_0, hl376_0, hi376_0⟩ := at_L1 HRal.out x15_2 p376 q376
                  cases e376
                  have HR376_0 := Aside0.mk hi376_0
                  have HC376_0 := Aside0.mk hl376_0
                  clear hi376_0 hl376_0
                  replace p376 := eq_true p376
                  replace q376 := eq_true q376
                  go_wp2
                  go_roundg k2
                  case measure => have := HJ7.out; have := HK2.out; omega
                  case rel => exact ⟨(wrap64 (x15_2 + 1)), (by first | rfl | (simp; done) | (simp [*]; done)), H', ⟨by have := HJ7.out; have := HK2.out; omega⟩, ⟨by repeat (first | (with_reducible first | exact HB.out | apply below_alloc | apply pw_below_drewN | apply below_drew1) | exact HB.out)⟩, ⟨by first | exact HRal.out | exact Kd.C_drewN HRal.out _ | exact Kd.C_drew HRal.out⟩⟩
                · rw [if_neg c21] at H
                  have c21b0 : (((rd_L1 yall x15_2).length : Int) == 32) = false := beq_eq_false_iff_ne.mpr c21
                  have c21b1 : (((rd_L1 yall x15_2).length : Int) != 32) = true := bne_iff_ne.mpr c21
                  obtain rfl := Option.some.inj H
                  have p376 : 0 ≤ (x15_2 : Int) := of_decide_eq_true (by first | (with_reducible assumption) | assumption)
                  have q376 : x15_2 < (yall.length : Int) := of_decide_eq_true (by first | (with_reducible assumption) | assumption)
                  obtain ⟨ad376, A376_0, c376_0, e376, hx376_0, hl376_0, hi376_0⟩ := at_L1 HRal.out x15_2 p376 q376
                  cases e376
                  have HR376_0 := Aside0.mk hi376_0
                  have HC376_0 := Aside0.mk hl376_0
                  clear hi376_0 hl376_0
                  replace p376 := eq_true p376
                  replace q376 := eq_true q376
                  go_wp2
                  go_ret
                  exact ⟨by first | rfl | (simp [errW_none, errW_some] <;> rfl) | (simp [*, errW_none, errW_some] <;> rfl), by repeat (first | (with_reducible first | exact HB.out | apply below_alloc | apply pw_below_drewN | apply below_drew1) | exact HB.out)⟩
              · rw [if_neg c20] at H
                exact absurd H (by simp)
            · rw [if_neg c19] at H
              have c19b0 : decide (x15_2 < (yall.length : Int)) = false := decide_eq_false c19
              clear c19
              replace H := Option.bind_eq_some_iff.mp H
              obtain ⟨⟨t377, t378⟩, A220, H⟩ := H
              replace H : ((merkle_Rebuild.f a0 a1 l3 l5).bind fun bt381 => (if t378 = 0 then (if bt381.2 = 0 then ((casketlaw20_same.f k2 t377 bt381.1).bind fun t385 => (if t385 = true then ((casketref20_Same.f k2 l2 l3).bind fun t386 => (if t386 = true then ((casketref20_Same.f k2 l4 l5).bind fun t387 => (casketlaw20_MerkleBinds.j2 k2 a0 a1 l2 l3 l4 l5 t371 t387)) else (casketlaw20_MerkleBinds.j2 k2 a0 a1 l2 l3 l4 l5 t371 false))) else (casketlaw20_MerkleBinds.j2 k2 a0 a1 l2 l3 l4 l5 t371 true))) else (casketlaw20_MerkleBinds.j2 k2 a0 a1 l2 l3 l4 l5 t371 true)) else (casketlaw20_MerkleBinds.j2 k2 a0 a1 l2 l3 l4 l5 t371 true))) = some true := H
              have A22 := Aside0.mk A220
              clear A220
              replace H := Option.bind_eq_some_iff.mp H
              obtain ⟨⟨t381, t382⟩, A230, H⟩ := H
              replace H : (if t378 = 0 then (if t382 = 0 then ((casketlaw20_same.f k2 t377 t381).bind fun t385 => (if t385 = true then ((casketref20_Same.f k2 l2 l3).bind fun t386 => (if t386 = true then ((casketref20_Same.f k2 l4 l5).bind fun t387 => (casketlaw20_MerkleBinds.j2 k2 a0 a1 l2 l3 l4 l5 t371 t387)) else (casketlaw20_MerkleBinds.j2 k2 a0 a1 l2 l3 l4 l5 t371 false))) else (casketlaw20_MerkleBinds.j2 k2 a0 a1 l2 l3 l4 l5 t371 true))) else (casketlaw20_MerkleBinds.j2 k2 a0 a1 l2 l3 l4 l5 t371 true)) else (casketlaw20_MerkleBinds.j2 k2 a0 a1 l2 l3 l4 l5 t371 true)) = some true := H
              have A23 := Aside0.mk A230
              clear A230
              have HC24 := Aside0.mk H
              clear H
              go_upto_region 12 with (first | ((with_reducible refine gate_callee (f := 23) rfl ?_); refine goesL_ (some 79) rfl rfl Tryd.func23 (by kernel_rfl) rfl #[.int .i64 a0, .int .i64 a1, .slice A2 l2.length c2, .slice A4 l4.length c4] rfl (by (try simp only [List.map_toArray, List.map_cons, List.map_nil]); first | done | rfl | (simp only [List.length_drop, List.length_take]; rfl)) ?_; (with_reducible refine (merkle_Rebuild.calls a0 a1 _ _ l2 _ _ l4 t377 t378 _ ?side1 ?side2 ?side3 ?side4 A22.out ?sideT).mono ?_); (case sideT => exact TabAt.below HTAB.out (by repeat (first | (with_reducible first | exact HB.out | apply below_alloc | apply pw_below_drewN | apply below_drew1) | exact HB.out)) (Nat.le_refl _)); (case side1 => repeat (first | exact (Kd.C_below HR2.out HB.out) | (with_reducible refine Kd.C_alloc ?_ _) | (with_reducible refine Kd.C_drewN ?_ _) | (with_reducible refine Kd.C_drew ?_))); (case side2 => exact HC2.out); (case side3 => repeat (first | exact (Kd.C_below HR4.out HB.out) | (with_reducible refine Kd.C_alloc ?_ _) | (with_reducible refine Kd.C_drewN ?_ _) | (with_reducible refine Kd.C_drew ?_))); (case side4 => exact HC4.out); rintro e w25 ⟨v379, rfl, ho0, hb⟩; refine ⟨_, rfl, ?_⟩; have n0_ := Aside0.mk (Kd.R_lower ho0 (below_size (by repeat (first | (with_reducible first | exact HB.out | apply below_alloc | apply pw_below_drewN | apply below_drew1) | exact HB.out)))); have n1_ := Aside0.mk (below_step (by repeat (first | (with_reducible first | exact HB.out | apply below_alloc | apply pw_below_drewN | apply below_drew1) | exact HB.out)) hb); clear HB; have HO380 := n0_; have HB := n1_; clear n0_ n1_; (try clear hb); (try clear hb2); (try clear hk); (try clear hi); (try clear ho0)) | ((with_reducible refine gate_callee (f := 23) rfl ?_); refine goesL_ (some 87) rfl rfl Tryd.func23 (by kernel_rfl) rfl #[.int .i64 a0, .int .i64 a1, .slice A3 l3.length c3, .slice A5 l5.length c5] rfl (by (try simp only [List.map_toArray, List.map_cons, List.map_nil]); first | done | rfl | (simp only [List.length_drop, List.length_take]; rfl)) ?_; (with_reducible refine (merkle_Rebuild.calls a0 a1 _ _ l3 _ _ l5 t381 t382 _ ?side1 ?side2 ?side3 ?side4 A23.out ?sideT).mono ?_); (case sideT => exact TabAt.below HTAB.out (by repeat (first | (with_reducible first | exact HB.out | apply below_alloc | apply pw_below_drewN | apply below_drew1) | exact HB.out)) (Nat.le_refl _)); (case side1 => repeat (first | exact (Kd.C_below HR3.out HB.out) | (with_reducible refine Kd.C_alloc ?_ _) | (with_reducible refine Kd.C_drewN ?_ _) | (with_reducible refine Kd.C_drew ?_))); (case side2 => exact HC3.out); (case side3 => repeat (first | exact (Kd.C_below HR5.out HB.out) | (with_reducible refine Kd.C_alloc ?_ _) | (with_reducible refine Kd.C_drewN ?_ _) | (with_reducible refine Kd.C_drew ?_))); (case side4 => exact HC5.out); rintro e w26 ⟨v383, rfl, ho0, hb⟩; refine ⟨_, rfl, ?_⟩; have n0_ := Aside0.mk (Kd.R_elder' (by (with_reducible repeat (first | apply Kd.R_alloc | apply Kd.R_drewN | apply Kd.R_drew)); exact HO380.out) (Kd.R_base ho0) hb); have n1_ := Aside0.mk (Kd.R_lower (Kd.R_new' ho0 (Kd.R_lt (by (with_reducible repeat (first | apply Kd.R_alloc | apply Kd.R_drewN | apply Kd.R_drew)); exact HO380.out))) (below_size (by repeat (first | (with_reducible first | exact HB.out | apply below_alloc | apply pw_below_drewN | apply below_drew1) | exact HB.out)))); have n2_ := Aside0.mk (below_step (by repeat (first | (with_reducible first | exact HB.out | apply below_alloc | apply pw_below_drewN | apply below_drew1) | exact HB.out)) hb); clear HO380; clear HB; have HO380 := n0_; have HO384 := n1_; have HB := n2_; clear n0_ n1_ n2_; (try clear hb); (try clear hb2); (try clear hk); (try clear hi); (try clear ho0)))
              (try simp only [Act.put, List.setIfInBounds_toArray, List.set_cons_zero, List.set_cons_succ])
              go_cut [111] (fun v111 wc => ∃ (kq : Nat) (x111_23 : Bool), v111 = .bool x111_23 ∧ Aside0 (casketlaw20_MerkleBinds.j2 kq a0 a1 l2 l3 l4 l5 t371 x111_23 = some true) ∧ Aside0 (kq ≤ k2) ∧ Aside0 (Below w.heap.size w wc))
              case first => as_aux_lemma =>
                have H := HC24.out
                clear HC24
                by_cases c27 : t378 = 0
                · rw [if_pos c27] at H
                  have c27b0 : (t378 == 0) = true := beq_iff_eq.mpr c27
                  have c27b1 : (t378 != 0) = false := bne_eq_false_iff_eq.mpr c27
                  clear c27
                  (first | rw [c27b0] | (simp only [i64_w, i32_w]; rw [c27b0]) | skip)
                  by_cases c28 : t382 = 0
                  · rw [if_pos c28] at H
                    have c28b0 : (t382 == 0) = true := beq_iff_eq.mpr c28
                    have c28b1 : (t382 != 0) = false := bne_eq_false_iff_eq.mpr c28
                    clear c28
                    replace H := Option.bind_eq_some_iff.mp H
                    obtain ⟨t385, A290, H⟩ := H
                    replace H : (if t385 = true then ((casketref20_Same.f k2 l2 l3).bind fun t386 => (if t386 = true then ((casketref20_Same.f k2 l4 l5).bind fun t387 => (casketlaw20_MerkleBinds.j2 k2 a0 a1 l2 l3 l4 l5 t371 t387)) else (casketlaw20_MerkleBinds.j2 k2 a0 a1 l2 l3 l4 l5 t371 false))) else (casketlaw20_MerkleBinds.j2 k2 a0 a1 l2 l3 l4 l5 t371 true)) = some true := H
                    have A29 := Aside0.mk A290
                    clear A290
                    by_cases c30 : t385 = true
                    · subst c30
                      have H1 : ((casketref20_Same.f k2 l2 l3).bind fun t386 => (if t386 = true then ((casketref20_Same.f k2 l4 l5).bind fun t387 => (casketlaw20_MerkleBinds.j2 k2 a0 a1 l2 l3 l4 l5 t371 t387)) else (casketlaw20_MerkleBinds.j2 k2 a0 a1 l2 l3 l4 l5 t371 false))) = some true := by rw [if_pos rfl] at H; exact H
                      clear H
                      have H := H1
                      clear H1
                      replace H := Option.bind_eq_some_iff.mp H
                      obtain ⟨t386, A310, H⟩ := H
                      replace H : (if t386 = true then ((casketref20_Same.f k2 l4 l5).bind fun t387 => (casketlaw20_MerkleBinds.j2 k2 a0 a1 l2 l3 l4 l5 t371 t387)) else (casketlaw20_MerkleBinds.j2 k2 a0 a1 l2 l3 l4 l5 t371 false)) = some true := H
                      have A31 := Aside0.mk A310
                      clear A310
                      by_cases c32 : t386 = true
                      · subst c32
                        have H1 : ((casketref20_Same.f k2 l4 l5).bind fun t387 => (casketlaw20_MerkleBinds.j2 k2 a0 a1 l2 l3 l4 l5 t371 t387)) = some true := by rw [if_pos rfl] at H; exact H
                        clear H
                        have H := H1
                        clear H1
                        replace H := Option.bind_eq_some_iff.mp H
                        obtain ⟨t387, A330, H⟩ := H
                        replace H : (casketlaw20_MerkleBinds.j2 k2 a0 a1 l2 l3 l4 l5 t371 t387) = some true := H
                        have A33 := Aside0.mk A330
                        clear A330
                        have H' := Aside0.mk H
                        clear H
                        obtain ⟨Ao34, co34, eo34⟩ := Kd.R_slice HO380.out
                        subst eo34
                        obtain ⟨Ao35, co35, eo35⟩ := Kd.R_slice HO384.out
                        subst eo35
                        go_wp2_with (first | (go_at_call 15; (with_reducible refine (casketlaw20_same.calls k2 _ _ t377 _ _ t381 true _ ?side1 ?side2 ?side3 ?side4 A29.out).mono ?_); (case side1 => repeat (first | exact (Kd.R_reads' HO380.out).2.2 | (with_reducible refine Kd.C_alloc ?_ _) | (with_reducible refine Kd.C_drewN ?_ _) | (with_reducible refine Kd.C_drew ?_))); (case side2 => exact (Kd.R_reads' HO380.out).2.1); (case side3 => repeat (first | exact (Kd.R_reads' HO384.out).2.2 | (with_reducible refine Kd.C_alloc ?_ _) | (with_reducible refine Kd.C_drewN ?_ _) | (with_reducible refine Kd.C_drew ?_))); (case side4 => exact (Kd.R_reads' HO384.out).2.1); rintro e w' ⟨rfl, ⟨nd, rfl⟩⟩) | (go_at_call 14; (with_reducible refine (casketref20_Same.calls k2 _ _ l2 _ _ l3 true _ ?side1 ?side2 ?side3 ?side4 A31.out).mono ?_); (case side1 => repeat (first | exact (Kd.C_below HR2.out (by repeat (first | (with_reducible first | exact HB.out | apply below_alloc | apply pw_below_drewN | apply below_drew1) | exact HB.out))) | (with_reducible refine Kd.C_alloc ?_ _) | (with_reducible refine Kd.C_drewN ?_ _) | (with_reducible refine Kd.C_drew ?_))); (case side2 => exact HC2.out); (case side3 => repeat (first | exact (Kd.C_below HR3.out (by repeat (first | (with_reducible first | exact HB.out | apply below_alloc | apply pw_below_drewN | apply below_drew1) | exact HB.out))) | (with_reducible refine Kd.C_alloc ?_ _) | (with_reducible refine Kd.C_drewN ?_ _) | (with_reducible refine Kd.C_drew ?_))); (case side4 => exact HC3.out); rintro e w' ⟨rfl, ⟨nd, rfl⟩⟩) | (go_at_call 14; (with_reducible refine (casketref20_Same.calls k2 _ _ l4 _ _ l5 t387 _ ?side1 ?side2 ?side3 ?side4 A33.out).mono ?_); (case side1 => repeat (first | exact (Kd.C_below HR4.out (by repeat (first | (with_reducible first | exact HB.out | apply below_alloc | apply pw_below_drewN | apply below_drew1) | exact HB.out))) | (with_reducible refine Kd.C_alloc ?_ _) | (with_reducible refine Kd.C_drewN ?_ _) | (with_reducible refine Kd.C_drew ?_))); (case side2 => exact HC4.out); (case side3 => repeat (first | exact (Kd.C_below HR5.out (by repeat (first | (with_reducible first | exact HB.out | apply below_alloc | apply pw_below_drewN | apply below_drew1) | exact HB.out))) | (with_reducible refine Kd.C_alloc ?_ _) | (with_reducible refine Kd.C_drewN ?_ _) | (with_reducible refine Kd.C_drew ?_))); (case side4 => exact HC5.out); rintro e w' ⟨rfl, ⟨nd, rfl⟩⟩))
                        go_meet
                        case rel => exact ⟨_, (t387), (by first | rfl | (simp; done) | (simp [*]; done)), H', ⟨by have := HJ7.out; have := HK2.out; first | exact Nat.le_refl _ | exact Nat.le_of_succ_le (by assumption) | omega⟩, ⟨by repeat (first | (with_reducible first | exact HB.out | apply below_alloc | apply pw_below_drewN | apply below_drew1) | exact HB.out)⟩⟩
                      · replace c32 := Bool.eq_false_iff.mpr c32
                        subst c32
                        have H1 : (casketlaw20_MerkleBinds.j2 k2 a0 a1 l2 l3 l4 l5 t371 false) = some true := by rw [if_neg (show ¬ (false = true) by decide)] at H; exact H
                        clear H
                        have H := H1
                        clear H1
                        have H' := Aside0.mk H
                        clear H
                        obtain ⟨Ao36, co36, eo36⟩ := Kd.R_slice HO380.out
                        subst eo36
                        obtain ⟨Ao37, co37, eo37⟩ := Kd.R_slice HO384.out
                        subst eo37
                        go_wp2_with (first | (go_at_call 15; (with_reducible refine (casketlaw20_same.calls k2 _ _ t377 _ _ t381 true _ ?side1 ?side2 ?side3 ?side4 A29.out).mono ?_); (case side1 => repeat (first | exact (Kd.R_reads' HO380.out).2.2 | (with_reducible refine Kd.C_alloc ?_ _) | (with_reducible refine Kd.C_drewN ?_ _) | (with_reducible refine Kd.C_drew ?_))); (case side2 => exact (Kd.R_reads' HO380.out).2.1); (case side3 => repeat (first | exact (Kd.R_reads' HO384.out).2.2 | (with_reducible refine Kd.C_alloc ?_ _) | (with_reducible refine Kd.C_drewN ?_ _) | (with_reducible refine Kd.C_drew ?_))); (case side4 => exact (Kd.R_reads' HO384.out).2.1); rintro e w' ⟨rfl, ⟨nd, rfl⟩⟩) | (go_at_call 14; (with_reducible refine (casketref20_Same.calls k2 _ _ l2 _ _ l3 false _ ?side1 ?side2 ?side3 ?side4 A31.out).mono ?_); (case side1 => repeat (first | exact (Kd.C_below HR2.out (by repeat (first | (with_reducible first | exact HB.out | apply below_alloc | apply pw_below_drewN | apply below_drew1) | exact HB.out))) | (with_reducible refine Kd.C_alloc ?_ _) | (with_reducible refine Kd.C_drewN ?_ _) | (with_reducible refine Kd.C_drew ?_))); (case side2 => exact HC2.out); (case side3 => repeat (first | exact (Kd.C_below HR3.out (by repeat (first | (with_reducible first | exact HB.out | apply below_alloc | apply pw_below_drewN | apply below_drew1) | exact HB.out))) | (with_reducible refine Kd.C_alloc ?_ _) | (with_reducible refine Kd.C_drewN ?_ _) | (with_reducible refine Kd.C_drew ?_))); (case side4 => exact HC3.out); rintro e w' ⟨rfl, ⟨nd, rfl⟩⟩))
                        go_meet
                        case rel => exact ⟨_, (false), (by first | rfl | (simp; done) | (simp [*]; done)), H', ⟨by have := HJ7.out; have := HK2.out; first | exact Nat.le_refl _ | exact Nat.le_of_succ_le (by assumption) | omega⟩, ⟨by repeat (first | (with_reducible first | exact HB.out | apply below_alloc | apply pw_below_drewN | apply below_drew1) | exact HB.out)⟩⟩
                    · replace c30 := Bool.eq_false_iff.mpr c30
                      subst c30
                      have H1 : (casketlaw20_MerkleBinds.j2 k2 a0 a1 l2 l3 l4 l5 t371 true) = some true := by rw [if_neg (show ¬ (false = true) by decide)] at H; exact H
                      clear H
                      have H := H1
                      clear H1
                      have H' := Aside0.mk H
                      clear H
                      obtain ⟨Ao38, co38, eo38⟩ := Kd.R_slice HO380.out
                      subst eo38
                      obtain ⟨Ao39, co39, eo39⟩ := Kd.R_slice HO384.out
                      subst eo39
                      go_wp2_with (first | (go_at_call 15; (with_reducible refine (casketlaw20_same.calls k2 _ _ t377 _ _ t381 false _ ?side1 ?side2 ?side3 ?side4 A29.out).mono ?_); (case side1 => repeat (first | exact (Kd.R_reads' HO380.out).2.2 | (with_reducible refine Kd.C_alloc ?_ _) | (with_reducible refine Kd.C_drewN ?_ _) | (with_reducible refine Kd.C_drew ?_))); (case side2 => exact (Kd.R_reads' HO380.out).2.1); (case side3 => repeat (first | exact (Kd.R_reads' HO384.out).2.2 | (with_reducible refine Kd.C_alloc ?_ _) | (with_reducible refine Kd.C_drewN ?_ _) | (with_reducible refine Kd.C_drew ?_))); (case side4 => exact (Kd.R_reads' HO384.out).2.1); rintro e w' ⟨rfl, ⟨nd, rfl⟩⟩))
                      go_meet
                      case rel => exact ⟨_, (true), (by first | rfl | (simp; done) | (simp [*]; done)), H', ⟨by have := HJ7.out; have := HK2.out; first | exact Nat.le_refl _ | exact Nat.le_of_succ_le (by assumption) | omega⟩, ⟨by repeat (first | (with_reducible first | exact HB.out | apply below_alloc | apply pw_below_drewN | apply below_drew1) | exact HB.out)⟩⟩
                  · rw [if_neg c28] at H
                    have c28b0 : (t382 == 0) = false := beq_eq_false_iff_ne.mpr c28
                    have c28b1 : (t382 != 0) = true := bne_iff_ne.mpr c28
                    have H' := Aside0.mk H
                    clear H
                    go_wp2
                    go_meet
                    case rel => exact ⟨_, (true), (by first | rfl | (simp; done) | (simp [*]; done)), H', ⟨by have := HJ7.out; have := HK2.out; first | exact Nat.le_refl _ | exact Nat.le_of_succ_le (by assumption) | omega⟩, ⟨by repeat (first | (with_reducible first | exact HB.out | apply below_alloc | apply pw_below_drewN | apply below_drew1) | exact HB.out)⟩⟩
                · rw [if_neg c27] at H
                  have c27b0 : (t378 == 0) = false := beq_eq_false_iff_ne.mpr c27
                  have c27b1 : (t378 != 0) = true := bne_iff_ne.mpr c27
                  (first | rw [c27b0] | (simp only [i64_w, i32_w]; rw [c27b0]) | skip)
                  have H' := Aside0.mk H
                  clear H
                  go_wp2
                  go_meet
                  case rel => exact ⟨_, (true), (by first | rfl | (simp; done) | (simp [*]; done)), H', ⟨by have := HJ7.out; have := HK2.out; first | exact Nat.le_refl _ | exact Nat.le_of_succ_le (by assumption) | omega⟩, ⟨by repeat (first | (with_reducible first | exact HB.out | apply below_alloc | apply pw_below_drewN | apply below_drew1) | exact HB.out)⟩⟩
              case rest => as_aux_lemma =>
                clear HC24
                try clear c1
                try clear c2
                try clear p2
                try clear c3
                try clear p3
                try clear q3
                try clear hx3
                try clear c4
                try clear c5
                try clear c6
                try clear p6
                try clear c10
                try clear c11
                try clear c13
                try clear c15
                try clear c17
                try clear c18
                try clear c19
                try clear c19b0
                try clear c20
                try clear c20b0
                try clear c21
                try clear c21b0
                try clear c21b1
                try clear c23
                try clear c27
                try clear c27b0
                try clear c27b1
                try clear c28
                try clear c28b0
                try clear c28b1
                try clear c30
                try clear c32
                try clear c37
                try clear p37
                try clear q37
                try clear hx37
                try clear hx376_0
                try clear p2
                try clear p376
                try clear q376
                obtain ⟨kq, x111_23, rfl, HA, HJ23, HB⟩ := hcut
                cases kq with
                | zero => exact absurd HA.out (by simp [casketlaw20_MerkleBinds.j2])
                | succ kj23 =>
                  have H := HA.out
                  clear HA
                  simp only [casketlaw20_MerkleBinds.j2] at H
                  by_cases c40 : x111_23 = true
                  · subst c40
                    have H1 : (some t371) = some true := by rw [if_pos rfl] at H; exact H
                    clear H
                    have H := H1
                    clear H1
                    obtain rfl := Option.some.inj H
                    go_wp2
                    go_ret
                    exact ⟨by first | rfl | (simp [errW_none, errW_some] <;> rfl) | (simp [*, errW_none, errW_some] <;> rfl), by repeat (first | (with_reducible first | exact HB.out | apply below_alloc | apply pw_below_drewN | apply below_drew1) | exact HB.out)⟩
                  · replace c40 := Bool.eq_false_iff.mpr c40
                    subst c40
                    have H1 : (if a0 < 1 then (casketlaw20_MerkleBinds.j3 kj23 a0 a1 l2 l3 l4 l5 t371 true) else (if a0 > 1048576 then (casketlaw20_MerkleBinds.j3 kj23 a0 a1 l2 l3 l4 l5 t371 true) else (if a1 < 0 then (casketlaw20_MerkleBinds.j3 kj23 a0 a1 l2 l3 l4 l5 t371 true) else (if a1 ≥ a0 then (casketlaw20_MerkleBinds.j3 kj23 a0 a1 l2 l3 l4 l5 t371 true) else (if (l2.length : Int) = 0 then (casketlaw20_MerkleBinds.j3 kj23 a0 a1 l2 l3 l4 l5 t371 true) else (if (l2.length : Int) > (wrap64 (a0 - a1)) then (casketlaw20_MerkleBinds.j3 kj23 a0 a1 l2 l3 l4 l5 t371 true) else ((casketref20_Many.f kj23 0 a0 a1 (wrap64 ((wrap64 (a1 + (l2.length : Int))) - 1))).bind fun t388 => (if (l4.length : Int) = t388 then (casketlaw20_MerkleBinds.j3 kj23 a0 a1 l2 l3 l4 l5 t371 ((l5.length : Int) != (l4.length : Int))) else (casketlaw20_MerkleBinds.j3 kj23 a0 a1 l2 l3 l4 l5 t371 true))))))))) = some true := by rw [if_neg (show ¬ (false = true) by decide)] at H; exact H
                    clear H
                    have H := H1
                    clear H1
                    have HC41 := Aside0.mk H
                    clear H
                    go_upto_region 14 with (fail)
                    go_cut [160] (fun v160 wc => ∃ (kq : Nat) (x160_40 : Bool), v160 = .bool x160_40 ∧ Aside0 (casketlaw20_MerkleBinds.j3 kq a0 a1 l2 l3 l4 l5 t371 x160_40 = some true) ∧ Aside0 (kq ≤ kj23) ∧ Aside0 (Below w.heap.size w wc))
                    case first => as_aux_lemma =>
                      have H := HC41.out
                      clear HC41
                      by_cases c42 : a0 < 1
                      · rw [if_pos c42] at H
                        have c42b0 : decide (a0 < 1) = true := decide_eq_true c42
                        clear c42
                        (first | rw [c42b0] | (simp only [i64_w, i32_w]; rw [c42b0]) | skip)
                        have H' := Aside0.mk H
                        clear H
                        go_wp2
                        go_meet
                        case rel => exact ⟨_, (true), (by first | rfl | (simp; done) | (simp [*]; done)), H', ⟨by have := HJ7.out; have := HK2.out; have := HJ23.out; first | exact Nat.le_refl _ | exact Nat.le_of_succ_le (by assumption) | omega⟩, ⟨by repeat (first | (with_reducible first | exact HB.out | apply below_alloc | apply pw_below_drewN | apply below_drew1) | exact HB.out)⟩⟩
                      · rw [if_neg c42] at H
                        have c42b0 : decide (a0 < 1) = false := decide_eq_false c42
                        clear c42
                        (first | rw [c42b0] | (simp only [i64_w, i32_w]; rw [c42b0]) | skip)
                        by_cases c43 : a0 > 1048576
                        · rw [if_pos c43] at H
                          have c43b0 : decide (1048576 < a0) = true := decide_eq_true c43
                          clear c43
                          have H' := Aside0.mk H
                          clear H
                          go_wp2
                          go_meet
                          case rel => exact ⟨_, (true), (by first | rfl | (simp; done) | (simp [*]; done)), H', ⟨by have := HJ7.out; have := HK2.out; have := HJ23.out; first | exact Nat.le_refl _ | exact Nat.le_of_succ_le (by assumption) | omega⟩, ⟨by repeat (first | (with_reducible first | exact HB.out | apply below_alloc | apply pw_below_drewN | apply below_drew1) | exact HB.out)⟩⟩
                        · rw [if_neg c43] at H
                          have c43b0 : decide (1048576 < a0) = false := decide_eq_false c43
                          clear c43
                          by_cases c44 : a1 < 0
                          · rw [if_pos c44] at H
                            have c44b0 : decide (a1 < 0) = true := decide_eq_true c44
                            clear c44
                            have H' := Aside0.mk H
                            clear H
                            go_wp2
                            go_meet
                            case rel => exact ⟨_, (true), (by first | rfl | (simp; done) | (simp [*]; done)), H', ⟨by have := HJ7.out; have := HK2.out; have := HJ23.out; first | exact Nat.le_refl _ | exact Nat.le_of_succ_le (by assumption) | omega⟩, ⟨by repeat (first | (with_reducible first | exact HB.out | apply below_alloc | apply pw_below_drewN | apply below_drew1) | exact HB.out)⟩⟩
                          · rw [if_neg c44] at H
                            have c44b0 : decide (a1 < 0) = false := decide_eq_false c44
                            clear c44
                            by_cases c45 : a1 ≥ a0
                            · rw [if_pos c45] at H
                              have c45b0 : decide (a0 ≤ a1) = true := decide_eq_true c45
                              clear c45
                              have H' := Aside0.mk H
                              clear H
                              go_wp2
                              go_meet
                              case rel => exact ⟨_, (true), (by first | rfl | (simp; done) | (simp [*]; done)), H', ⟨by have := HJ7.out; have := HK2.out; have := HJ23.out; first | exact Nat.le_refl _ | exact Nat.le_of_succ_le (by assumption) | omega⟩, ⟨by repeat (first | (with_reducible first | exact HB.out | apply below_alloc | apply pw_below_drewN | apply below_drew1) | exact HB.out)⟩⟩
                            · rw [if_neg c45] at H
                              have c45b0 : decide (a0 ≤ a1) = false := decide_eq_false c45
                              clear c45
                              by_cases c46 : (l2.length : Int) = 0
                              · rw [if_pos c46] at H
                                have c46b0 : ((l2.length : Int) == 0) = true := beq_iff_eq.mpr c46
                                have c46b1 : ((l2.length : Int) != 0) = false := bne_eq_false_iff_eq.mpr c46
                                clear c46
                                have H' := Aside0.mk H
                                clear H
                                go_wp2
                                go_meet
                                case rel => exact ⟨_, (true), (by first | rfl | (simp; done) | (simp [*]; done)), H', ⟨by have := HJ7.out; have := HK2.out; have := HJ23.out; first | exact Nat.le_refl _ | exact Nat.le_of_succ_le (by assumption) | omega⟩, ⟨by repeat (first | (with_reducible first | exact HB.out | apply below_alloc | apply pw_below_drewN | apply below_drew1) | exact HB.out)⟩⟩
                              · rw [if_neg c46] at H
                                have c46b0 : ((l2.length : Int) == 0) = false := beq_eq_false_iff_ne.mpr c46
                                have c46b1 : ((l2.length : Int) != 0) = true := bne_iff_ne.mpr c46
                                have c46b2 : ¬ (l2 = []) := fun h_ => c46 (by rw [h_]; rfl)
                                by_cases c47 : (l2.length : Int) > (wrap64 (a0 - a1))
                                · rw [if_pos c47] at H
                                  have c47b0 : decide ((wrap64 (a0 - a1)) < (l2.length : Int)) = true := decide_eq_true c47
                                  clear c47
                                  have H' := Aside0.mk H
                                  clear H
                                  go_wp2
                                  go_meet
                                  case rel => exact ⟨_, (true), (by first | rfl | (simp; done) | (simp [*]; done)), H', ⟨by have := HJ7.out; have := HK2.out; have := HJ23.out; first | exact Nat.le_refl _ | exact Nat.le_of_succ_le (by assumption) | omega⟩, ⟨by repeat (first | (with_reducible first | exact HB.out | apply below_alloc | apply pw_below_drewN | apply below_drew1) | exact HB.out)⟩⟩
                                · rw [if_neg c47] at H
                                  have c47b0 : decide ((wrap64 (a0 - a1)) < (l2.length : Int)) = false := decide_eq_false c47
                                  clear c47
                                  replace H := Option.bind_eq_some_iff.mp H
                                  obtain ⟨t388, A480, H⟩ := H
                                  replace H : (if (l4.length : Int) = t388 then (casketlaw20_MerkleBinds.j3 kj23 a0 a1 l2 l3 l4 l5 t371 ((l5.length : Int) != (l4.length : Int))) else (casketlaw20_MerkleBinds.j3 kj23 a0 a1 l2 l3 l4 l5 t371 true)) = some true := H
                                  have A48 := Aside0.mk A480
                                  clear A480
                                  obtain ⟨Jw, hJw⟩ : ∃ J_ : Int, wrap64 ((wrap64 (a1 + (l2.length : Int))) - 1) = J_ := ⟨_, rfl⟩
                                  rw [hJw] at A48
                                  by_cases c49 : (l4.length : Int) = t388
                                  · rw [if_pos c49] at H
                                    have c49b0 : ((l4.length : Int) == t388) = true := beq_iff_eq.mpr c49
                                    have c49b1 : ((l4.length : Int) != t388) = false := bne_eq_false_iff_eq.mpr c49
                                    clear c49
                                    have H' := Aside0.mk H
                                    clear H
                                    go_wp2_with (first | (go_at_call 24; (with_reducible refine (casketref20_Many.calls kj23 0 a0 a1 Jw t388 _ A48.out).mono ?_); rintro e w' ⟨rfl, ⟨nd, rfl⟩⟩))
                                    go_meet
                                    case rel => exact ⟨_, (((l5.length : Int) != (l4.length : Int))), (by first | rfl | (simp; done) | (simp [*]; done)), H', ⟨by have := HJ7.out; have := HK2.out; have := HJ23.out; first | exact Nat.le_refl _ | exact Nat.le_of_succ_le (by assumption) | omega⟩, ⟨by repeat (first | (with_reducible first | exact HB.out | apply below_alloc | apply pw_below_drewN | apply below_drew1) | exact HB.out)⟩⟩
                                  · rw [if_neg c49] at H
                                    have c49b0 : ((l4.length : Int) == t388) = false := beq_eq_false_iff_ne.mpr c49
                                    have c49b1 : ((l4.length : Int) != t388) = true := bne_iff_ne.mpr c49
                                    have H' := Aside0.mk H
                                    clear H
                                    go_wp2_with (first | (go_at_call 24; (with_reducible refine (casketref20_Many.calls kj23 0 a0 a1 Jw t388 _ A48.out).mono ?_); rintro e w' ⟨rfl, ⟨nd, rfl⟩⟩))
                                    go_meet
                                    case rel => exact ⟨_, (true), (by first | rfl | (simp; done) | (simp [*]; done)), H', ⟨by have := HJ7.out; have := HK2.out; have := HJ23.out; first | exact Nat.le_refl _ | exact Nat.le_of_succ_le (by assumption) | omega⟩, ⟨by repeat (first | (with_reducible first | exact HB.out | apply below_alloc | apply pw_below_drewN | apply below_drew1) | exact HB.out)⟩⟩
                    case rest => as_aux_lemma =>
                      clear HC41
                      try clear c1
                      try clear c2
                      try clear p2
                      try clear c3
                      try clear p3
                      try clear q3
                      try clear hx3
                      try clear c4
                      try clear c5
                      try clear c6
                      try clear p6
                      try clear c10
                      try clear c11
                      try clear c13
                      try clear c15
                      try clear c17
                      try clear c18
                      try clear c19
                      try clear c19b0
                      try clear c20
                      try clear c20b0
                      try clear c21
                      try clear c21b0
                      try clear c21b1
                      try clear c23
                      try clear c27
                      try clear c27b0
                      try clear c27b1
                      try clear c28
                      try clear c28b0
                      try clear c28b1
                      try clear c30
                      try clear c32
                      try clear c37
                      try clear p37
                      try clear q37
                      try clear hx37
                      try clear c40
                      try clear c42
                      try clear c42b0
                      try clear c43
                      try clear c43b0
                      try clear c44
                      try clear c44b0
                      try clear c45
                      try clear c45b0
                      try clear c46
                      try clear c46b0
                      try clear c46b1
                      try clear c46b2
                      try clear c47
                      try clear c47b0
                      try clear c49
                      try clear c49b0
                      try clear c49b1
                      try clear hx376_0
                      try clear p2
                      try clear p3
                      try clear p37
                      try clear p376
                      try clear p6
                      try clear q3
                      try clear q37
                      try clear q376
                      obtain ⟨kq, x160_40, rfl, HA, HJ40, HB⟩ := hcut
                      cases kq with
                      | zero => exact absurd HA.out (by simp [casketlaw20_MerkleBinds.j3])
                      | succ kj40 =>
                        have H := HA.out
                        clear HA
                        simp only [casketlaw20_MerkleBinds.j3] at H
                        by_cases c50 : x160_40 = true
                        · rw [if_pos c50] at H
                          exact absurd H (by simp)
                        rw [if_neg c50] at H
                        obtain rfl : x160_40 = false := Bool.eq_false_iff.mpr c50
                        clear c50
                        replace H := Option.bind_eq_some_iff.mp H
                        obtain ⟨⟨t389, t392, t395, t396, t399, t402⟩, A510, H⟩ := H
                        dsimp only at H
                        have A51 := Aside0.mk A510
                        clear A510
                        by_cases c52 : t371 = true
                        case neg =>
                          rw [if_neg c52] at H
                          exact absurd H (by simp)
                        rw [if_pos c52] at H
                        subst c52
                        by_cases c53 : t395 = true
                        case neg =>
                          rw [if_neg c53] at H
                          exact absurd H (by simp)
                        rw [if_pos c53] at H
                        subst c53
                        replace H := Option.bind_eq_some_iff.mp H
                        obtain ⟨t404, A540, H⟩ := H
                        have A54 := Aside0.mk A540
                        clear A540
                        by_cases c55 : t404 = true
                        · rw [if_pos c55] at H
                          exact absurd H (by simp)
                        rw [if_neg c55] at H
                        obtain rfl : t404 = false := Bool.eq_false_iff.mpr c55
                        clear c55
                        replace H := Option.bind_eq_some_iff.mp H
                        obtain ⟨t405, A560, H⟩ := H
                        replace H := Option.bind_eq_some_iff.mp H
                        obtain ⟨t408, A570, H⟩ := H
                        replace H := Option.bind_eq_some_iff.mp H
                        obtain ⟨t411, A580, H⟩ := H
                        obtain rfl : t411 = true := Option.some.inj H
                        have A56 := Aside0.mk A560
                        have A57 := Aside0.mk A570
                        have A58 := Aside0.mk A580
                        clear A560 A570 A580 H
                        go_wp2_with fail
                        refine (casketlaw20_clash.calls kj40 0 a0 a1 A2 c2 l2 A3 c3 l3 A4 c4 l4 A5 c5 l5 0 t389 t392 true t396 t399 t402 _ (Kd.C_below HR2.out HB.out) (Kd.C_below HR3.out HB.out) (Kd.C_below HR4.out HB.out) (Kd.C_below HR5.out HB.out) A51.out).mono ?_
                        rintro e w3 ⟨v0, v1, v3, v4, rfl, s0, s1, s3, s4, l3'⟩
                        have s0' := s0
                        have s1' := s1
                        obtain ⟨A0', c0', eA0, -⟩ := s0
                        subst eA0
                        obtain ⟨A1', c1', eA1, -⟩ := s1
                        subst eA1
                        have M3 : (w3.alloc (.cells #[.slice none 0 0, .slice none 0 0] 42)).heap[w3.heap.size]? = some (.cells #[.slice none 0 0, .slice none 0 0] 42) := heap_alloc_new w3 _
                        obtain ⟨g0, g1⟩ := pair_cells M3
                        have f0 := pair_free M3 0
                        have f1 := pair_free M3 1
                        clear M3
                        have N23 := Aside0.mk (boxed_new w3 (u := .slice A0' t389.length c0') (v := .slice A1' t392.length c1') ⟨_, _, _, rfl⟩ ⟨_, _, _, rfl⟩)
                        have L4 := Aside0.mk (below_step (below_step HB.out l3') (boxed_below w3 (.slice A0' t389.length c0') (.slice A1' t392.length c1')))
                        have t0 := Aside0.mk (s0'.below (boxed_below w3 (.slice A0' t389.length c0') (.slice A1' t392.length c1')))
                        have t1 := Aside0.mk (s1'.below (boxed_below w3 (.slice A0' t389.length c0') (.slice A1' t392.length c1')))
                        clear HB l3' s3 s4
                        go_upto_region 17 with (fail)
                        obtain ⟨g23, hg23⟩ : ∃ g, g = w3.heap.size := ⟨_, rfl⟩
                        rw [← hg23] at N23 ⊢
                        clear hg23 g0 g1 f0 f1 s0' s1'
                        unfold boxed at N23 L4 t0 t1
                        generalize w3.alloc (.cells #[.slice A0' t389.length c0', .slice A1' t392.length c1'] 42) = w4 at N23 L4 t0 t1 ⊢
                        obtain ⟨hg0, hg1⟩ := N23.out.cells
                        refine start_ (n := 22) (S := fun w' => w'.cell? ⟨g23, 0, none⟩ = some (.slice A0' t389.length c0') ∧ w'.cell? ⟨g23, 1, none⟩ = some (.slice A1' t392.length c1')) (ds := []) #[false, false, false, false, false, false, false, false, false, false, false, false, false, false, false, false, false, false, false, false, false, false] (by kernel_rfl) rfl rfl ⟨hg0, hg1⟩ (fun hHeld => ?_)
                        refine with_tabW binds_end.tab17 binds_end.bits17 (fun HT_ HW_ => ?_)
                        have U23 := Aside0.mk (N23.out.below (below_drew (Below.refl w4.heap.size w4)) N23.out.lt)
                        have UL := Aside0.mk (below_drew1 L4.out)
                        have U0 := Aside0.mk (t0.out.below (below_drew (Below.refl _ _)))
                        have U1 := Aside0.mk (t1.out.below (below_drew (Below.refl _ _)))
                        clear N23 L4 t0 t1 hg0 hg1
                        generalize w4.drew = w5 at U23 UL U0 U1 hHeld ⊢
                        refine pure_ (i := 0) (N := some 174) (v := ?_) (a' := ?_) #[true, false, false, false, false, false, false, false, false, false, false, false, false, false, false, false, false, false, false, false, false, false] rfl rfl (any_of HT_.out (by kernel_rfl)) (fun _ _ _ h => h) (Or.inl ⟨by rfl, ?_⟩) ?_ ?_
                        rotate_left
                        · intro w'
                          go_simp
                          with_reducible rfl
                        rotate_left
                        · simp only [Act.put, List.setIfInBounds_toArray, List.set_cons_zero, List.set_cons_succ, i64_w, i32_w]
                          rfl
                        refine pure_ (i := 1) (N := some 175) (v := ?_) (a' := ?_) #[true, true, false, false, false, false, false, false, false, false, false, false, false, false, false, false, false, false, false, false, false, false] rfl rfl (any_of HT_.out (by kernel_rfl)) (fun _ _ _ h => h) (Or.inl ⟨by rfl, ?_⟩) ?_ ?_
                        rotate_left
                        · intro w'
                          go_simp
                          with_reducible rfl
                        rotate_left
                        · simp only [Act.put, List.setIfInBounds_toArray, List.set_cons_zero, List.set_cons_succ, i64_w, i32_w]
                          rfl
                        refine pure_ (i := 2) (N := some 176) (v := ?_) (a' := ?_) #[true, true, true, false, false, false, false, false, false, false, false, false, false, false, false, false, false, false, false, false, false, false] rfl rfl (any_of HT_.out (by kernel_rfl)) (fun _ _ _ h => h) (Or.inl ⟨by rfl, ?_⟩) ?_ ?_
                        rotate_left
                        · intro w'
                          go_simp
                          with_reducible rfl
                        rotate_left
                        · simp only [Act.put, List.setIfInBounds_toArray, List.set_cons_zero, List.set_cons_succ, i64_w, i32_w]
                          rfl
                        refine pure_ (i := 3) (N := some 177) (v := ?_) (a' := ?_) #[true, true, true, true, false, false, false, false, false, false, false, false, false, false, false, false, false, false, false, false, false, false] rfl rfl (any_of HT_.out (by kernel_rfl)) (fun _ _ _ h => h) (Or.inl ⟨by rfl, ?_⟩) ?_ ?_
                        rotate_left
                        · intro w'
                          go_simp
                          with_reducible rfl
                        rotate_left
                        · simp only [Act.put, List.setIfInBounds_toArray, List.set_cons_zero, List.set_cons_succ, i64_w, i32_w]
                          rfl
                        refine pure_ (i := 4) (N := some 178) (v := ?_) (a' := ?_) #[true, true, true, true, true, false, false, false, false, false, false, false, false, false, false, false, false, false, false, false, false, false] rfl rfl (any_of HT_.out (by kernel_rfl)) (fun _ _ _ h => h) (Or.inl ⟨by rfl, ?_⟩) ?_ ?_
                        rotate_left
                        · intro w'
                          go_simp
                          with_reducible rfl
                        rotate_left
                        · simp only [Act.put, List.setIfInBounds_toArray, List.set_cons_zero, List.set_cons_succ, i64_w, i32_w]
                          rfl
                        refine pure_ (i := 5) (N := some 179) (v := ?_) (a' := ?_) #[true, true, true, true, true, true, false, false, false, false, false, false, false, false, false, false, false, false, false, false, false, false] rfl rfl (any_of HT_.out (by kernel_rfl)) (fun _ _ _ h => h) (Or.inl ⟨by rfl, ?_⟩) ?_ ?_
                        rotate_left
                        · intro w'
                          go_simp
                          with_reducible rfl
                        rotate_left
                        · simp only [Act.put, List.setIfInBounds_toArray, List.set_cons_zero, List.set_cons_succ, i64_w, i32_w]
                          rfl
                        refine take_ (i := 6) (N := some 180) (v := ?_) (a' := ?_) #[true, true, true, true, true, true, true, false, false, false, false, false, false, false, false, false, false, false, false, false, false, false] rfl rfl (take_ofW HT_.out HW_.out (by kernel_rfl)) (fun _ _ _ h => h) (Or.inl ⟨by rfl, ?_⟩) hHeld ?_ ?_
                        rotate_left
                        · intro w' hS'
                          have hc0 := hS'.1
                          go_simp
                          with_reducible rfl
                        rotate_left
                        · simp only [Act.put, List.setIfInBounds_toArray, List.set_cons_zero, List.set_cons_succ, i64_w, i32_w]
                          rfl
                        refine pure_ (i := 7) (N := some 181) (v := ?_) (a' := ?_) #[true, true, true, true, true, true, true, true, false, false, false, false, false, false, false, false, false, false, false, false, false, false] rfl rfl (any_of HT_.out (by kernel_rfl)) (fun _ _ _ h => h) (Or.inl ⟨by rfl, ?_⟩) ?_ ?_
                        rotate_left
                        · intro w'
                          go_simp
                          with_reducible rfl
                        rotate_left
                        · simp only [Act.put, List.setIfInBounds_toArray, List.set_cons_zero, List.set_cons_succ, i64_w, i32_w]
                          rfl
                        refine take_ (i := 8) (N := some 182) (v := ?_) (a' := ?_) #[true, true, true, true, true, true, true, true, true, false, false, false, false, false, false, false, false, false, false, false, false, false] rfl rfl (take_ofW HT_.out HW_.out (by kernel_rfl)) (fun _ _ _ h => h) (Or.inl ⟨by rfl, ?_⟩) hHeld ?_ ?_
                        rotate_left
                        · intro w' hS'
                          have hc1 := hS'.2
                          go_simp
                          with_reducible rfl
                        rotate_left
                        · simp only [Act.put, List.setIfInBounds_toArray, List.set_cons_zero, List.set_cons_succ, i64_w, i32_w]
                          rfl
                        refine one_ (i := 9) (N := some 183) #[true, true, true, true, true, true, true, true, true, true, false, false, false, false, false, false, false, false, false, false, false, false] rfl rfl (one_of HT_.out (by kernel_rfl)) (by decide) (fun K hK => ?_)
                        refine goes_ Tryd.func15 (by kernel_rfl) rfl #[.slice A0' t389.length c0', .slice A1' t392.length c1'] (by rfl) rfl rfl (by (try simp only [List.map_toArray, List.map_cons, List.map_nil]); first | done | rfl) ?_
                        with_reducible refine (casketlaw20_same.calls kj40 A0' c0' t389 A1' c1' t392 false w5 (SL.C U0.out) U0.out.cap (SL.C U1.out) U1.out.cap A54.out).mono ?_
                        rintro e w' ⟨rfl, ⟨nd, rfl⟩⟩
                        refine ⟨_, rfl, ?_⟩
                        have X23 := Aside0.mk (U23.out.below (pw_below_drewN (Below.refl w5.heap.size w5) nd) U23.out.lt)
                        have XL := Aside0.mk (pw_below_drewN UL.out nd)
                        have X0 := Aside0.mk (U0.out.below (pw_below_drewN (Below.refl w5.heap.size w5) nd))
                        have X1 := Aside0.mk (U1.out.below (pw_below_drewN (Below.refl w5.heap.size w5) nd))
                        clear U23 UL U0 U1 hHeld
                        refine hK.out _ _ X23.out.cells (fun hHeld => ?_)
                        clear hK K
                        generalize w5.drewN nd = w6 at X23 XL X0 X1 hHeld ⊢
                        refine norm_ (a' := ?_) ?_ ?_
                        rotate_left
                        · show Act.put _ (some 183) _ = _
                          simp only [Act.put, List.setIfInBounds_toArray, List.set_cons_zero, List.set_cons_succ, i64_w, i32_w]
                          rfl
                        refine pure_ (i := 10) (N := some 184) (v := ?_) (a' := ?_) #[true, true, true, true, true, true, true, true, true, true, true, false, false, false, false, false, false, false, false, false, false, false] rfl rfl (any_of HT_.out (by kernel_rfl)) (fun _ _ _ h => h) (Or.inl ⟨by rfl, ?_⟩) ?_ ?_
                        rotate_left
                        · intro w'
                          go_simp
                          with_reducible rfl
                        rotate_left
                        · simp only [Act.put, List.setIfInBounds_toArray, List.set_cons_zero, List.set_cons_succ, i64_w, i32_w]
                          rfl
                        refine pure_ (i := 11) (N := some 185) (v := ?_) (a' := ?_) #[true, true, true, true, true, true, true, true, true, true, true, true, false, false, false, false, false, false, false, false, false, false] rfl rfl (any_of HT_.out (by kernel_rfl)) (fun _ _ _ h => h) (Or.inl ⟨by rfl, ?_⟩) ?_ ?_
                        rotate_left
                        · intro w'
                          go_simp
                          with_reducible rfl
                        rotate_left
                        · simp only [Act.put, List.setIfInBounds_toArray, List.set_cons_zero, List.set_cons_succ, i64_w, i32_w]
                          rfl
                        refine pure_ (i := 12) (N := some 186) (v := ?_) (a' := ?_) #[true, true, true, true, true, true, true, true, true, true, true, true, true, false, false, false, false, false, false, false, false, false] rfl rfl (any_of HT_.out (by kernel_rfl)) (fun _ _ _ h => h) (Or.inl ⟨by rfl, ?_⟩) ?_ ?_
                        rotate_left
                        · intro w'
                          go_simp
                          with_reducible rfl
                        rotate_left
                        · simp only [Act.put, List.setIfInBounds_toArray, List.set_cons_zero, List.set_cons_succ, i64_w, i32_w]
                          rfl
                        refine pure_ (i := 13) (N := some 187) (v := ?_) (a' := ?_) #[true, true, true, true, true, true, true, true, true, true, true, true, true, true, false, false, false, false, false, false, false, false] rfl rfl (any_of HT_.out (by kernel_rfl)) (fun _ _ _ h => h) (Or.inl ⟨by rfl, ?_⟩) ?_ ?_
                        rotate_left
                        · intro w'
                          go_simp
                          with_reducible rfl
                        rotate_left
                        · simp only [Act.put, List.setIfInBounds_toArray, List.set_cons_zero, List.set_cons_succ, i64_w, i32_w]
                          rfl
                        refine take_ (i := 14) (N := some 188) (v := ?_) (a' := ?_) #[true, true, true, true, true, true, true, true, true, true, true, true, true, true, true, false, false, false, false, false, false, false] rfl rfl (take_ofW HT_.out HW_.out (by kernel_rfl)) (fun _ _ _ h => h) (Or.inl ⟨by rfl, ?_⟩) hHeld ?_ ?_
                        rotate_left
                        · intro w' hS'
                          have hc0 := hS'.1
                          go_simp
                          with_reducible rfl
                        rotate_left
                        · simp only [Act.put, List.setIfInBounds_toArray, List.set_cons_zero, List.set_cons_succ, i64_w, i32_w]
                          rfl
                        refine pure_ (i := 16) (N := some 190) (v := ?_) (a' := ?_) #[true, true, true, true, true, true, true, true, true, true, true, true, true, true, true, false, true, false, false, false, false, false] rfl rfl (any_of HT_.out (by kernel_rfl)) (fun _ _ _ h => h) (Or.inl ⟨by rfl, ?_⟩) ?_ ?_
                        rotate_left
                        · intro w'
                          go_simp
                          with_reducible rfl
                        rotate_left
                        · simp only [Act.put, List.setIfInBounds_toArray, List.set_cons_zero, List.set_cons_succ, i64_w, i32_w]
                          rfl
                        refine take_ (i := 17) (N := some 191) (v := ?_) (a' := ?_) #[true, true, true, true, true, true, true, true, true, true, true, true, true, true, true, false, true, true, false, false, false, false] rfl rfl (take_ofW HT_.out HW_.out (by kernel_rfl)) (fun _ _ _ h => h) (Or.inl ⟨by rfl, ?_⟩) hHeld ?_ ?_
                        rotate_left
                        · intro w' hS'
                          have hc1 := hS'.2
                          go_simp
                          with_reducible rfl
                        rotate_left
                        · simp only [Act.put, List.setIfInBounds_toArray, List.set_cons_zero, List.set_cons_succ, i64_w, i32_w]
                          rfl
                        refine one_ (i := 15) (N := some 189) #[true, true, true, true, true, true, true, true, true, true, true, true, true, true, true, true, true, true, false, false, false, false] rfl rfl (one_of HT_.out (by kernel_rfl)) (by decide) (fun K hK => ?_)
                        refine goes_ Tryd.func26 (by kernel_rfl) rfl #[.slice A0' t389.length c0'] (by rfl) rfl rfl (by (try simp only [List.map_toArray, List.map_cons, List.map_nil]); first | done | rfl) ?_
                        with_reducible refine (casketref20_Sum.calls kj40 A0' c0' t389 t405 w6 (SL.C X0.out) X0.out.cap A56.out).mono ?_
                        rintro e w7 ⟨v7, rfl, O7, l7⟩
                        refine ⟨_, rfl, ?_⟩
                        have Y23 := Aside0.mk (X23.out.below l7 X23.out.lt)
                        have YL := Aside0.mk (below_step XL.out l7)
                        have Y1 := Aside0.mk (X1.out.below l7)
                        have O7' := Aside0.mk (SL.of_R O7)
                        clear X23 XL X0 X1 O7 l7 hHeld
                        refine hK.out _ _ Y23.out.cells (fun hHeld => ?_)
                        clear hK K
                        refine norm_ (a' := ?_) ?_ ?_
                        rotate_left
                        · show Act.put _ (some 189) _ = _
                          simp only [Act.put, List.setIfInBounds_toArray, List.set_cons_zero, List.set_cons_succ, i64_w, i32_w]
                          rfl
                        refine one_ (i := 18) (N := some 192) #[true, true, true, true, true, true, true, true, true, true, true, true, true, true, true, true, true, true, true, false, false, false] rfl rfl (one_of HT_.out (by kernel_rfl)) (by decide) (fun K hK => ?_)
                        refine goes_ Tryd.func26 (by kernel_rfl) rfl #[.slice A1' t392.length c1'] (by rfl) rfl rfl (by (try simp only [List.map_toArray, List.map_cons, List.map_nil]); first | done | rfl) ?_
                        with_reducible refine (casketref20_Sum.calls kj40 A1' c1' t392 t408 w7 (SL.C Y1.out) Y1.out.cap A57.out).mono ?_
                        rintro e w8 ⟨v8, rfl, O8, l8⟩
                        refine ⟨_, rfl, ?_⟩
                        have Z23 := Aside0.mk (Y23.out.below l8 Y23.out.lt)
                        have ZL := Aside0.mk (below_step YL.out l8)
                        have O9 := Aside0.mk (O7'.out.below l8)
                        have O8' := Aside0.mk (SL.of_R O8)
                        clear Y23 YL Y1 O7' O8 l8 hHeld
                        obtain ⟨A7, c7, e7, -⟩ := O9.out
                        subst e7
                        obtain ⟨A8, c8, e8, -⟩ := O8'.out
                        subst e8
                        refine hK.out _ _ Z23.out.cells (fun hHeld => ?_)
                        clear hK K
                        refine norm_ (a' := ?_) ?_ ?_
                        rotate_left
                        · show Act.put _ (some 192) _ = _
                          simp only [Act.put, List.setIfInBounds_toArray, List.set_cons_zero, List.set_cons_succ, i64_w, i32_w]
                          rfl
                        refine one_ (i := 19) (N := some 193) #[true, true, true, true, true, true, true, true, true, true, true, true, true, true, true, true, true, true, true, true, false, false] rfl rfl (one_of HT_.out (by kernel_rfl)) (by decide) (fun K hK => ?_)
                        refine goes_ Tryd.func15 (by kernel_rfl) rfl #[.slice A7 t405.length c7, .slice A8 t408.length c8] (by rfl) rfl rfl (by (try simp only [List.map_toArray, List.map_cons, List.map_nil]); first | done | rfl) ?_
                        with_reducible refine (casketlaw20_same.calls kj40 A7 c7 t405 A8 c8 t408 true w8 (SL.C O9.out) O9.out.cap (SL.C O8'.out) O8'.out.cap A58.out).mono ?_
                        rintro e w' ⟨rfl, ⟨nd2, rfl⟩⟩
                        refine ⟨_, rfl, ?_⟩
                        have V23 := Aside0.mk (Z23.out.below (pw_below_drewN (Below.refl w8.heap.size w8) nd2) Z23.out.lt)
                        have VL := Aside0.mk (pw_below_drewN ZL.out nd2)
                        clear Z23 ZL O9 O8' hHeld
                        refine hK.out _ _ V23.out.cells (fun hHeld => ?_)
                        clear hK K
                        refine norm_ (a' := ?_) ?_ ?_
                        rotate_left
                        · show Act.put _ (some 193) _ = _
                          simp only [Act.put, List.setIfInBounds_toArray, List.set_cons_zero, List.set_cons_succ, i64_w, i32_w]
                          rfl
                        refine pure_ (i := 20) (N := some 194) (v := ?_) (a' := ?_) #[true, true, true, true, true, true, true, true, true, true, true, true, true, true, true, true, true, true, true, true, true, false] rfl rfl (any_of HT_.out (by kernel_rfl)) (fun _ _ _ h => h) (Or.inl ⟨by rfl, ?_⟩) ?_ ?_
                        rotate_left
                        · intro w'
                          go_simp
                          with_reducible rfl
                        rotate_left
                        · simp only [Act.put, List.setIfInBounds_toArray, List.set_cons_zero, List.set_cons_succ, i64_w, i32_w]
                          rfl
                        refine pure_ (i := 21) (N := some 12) (v := ?_) (a' := ?_) #[true, true, true, true, true, true, true, true, true, true, true, true, true, true, true, true, true, true, true, true, true, true] rfl rfl (any_of HT_.out (by kernel_rfl)) (fun _ _ _ h => h) (Or.inl ⟨by rfl, ?_⟩) ?_ ?_
                        rotate_left
                        · intro w'
                          go_simp
                          with_reducible rfl
                        rotate_left
                        · simp only [Act.put, List.setIfInBounds_toArray, List.set_cons_zero, List.set_cons_succ, i64_w, i32_w]
                          rfl
                        refine done_ (done_of HT_.out (by kernel_rfl)) ?_
                        try go_wp2
                        go_ret
                        exact ⟨rfl, VL.out⟩

end Go.Proofs.YtgdogjnjbinoiaaDoor.Q
