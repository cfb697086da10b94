/- What the call of casketlaw13.ShaOthers answers: true, for any two texts; nothing below the memory that it makes is turned. -/
import Derived.Test.YtgdogjnjbinoiaaHShaCut
import Derived.Test.YtgdogjnjbinoiaaCref13
namespace Go.Proofs.Ytgdogjnjbinoiaa.Q
open Go.RowKit Go.Proofs.YtgdogjnjbinoiaaW.PrintWords Go.Proofs.YtgdogjnjbinoiaaW.PrintLast Go.Proofs.YtgdogjnjbinoiaaW.PrintMore Go.Proofs.Ytgdogjnjbinoiaa.H
set_option linter.unusedVariables false
set_option linter.unusedSimpArgs false
theorem Own.of_R {w : World} {base e : Nat} {k : IntKind} {ok : Nat → Prop} {v : Value} {l : List Int} (h : Kd.R (Kd.int k) e w base ok v l) : Own w base e k v l := ⟨Kd.own_of_R h⟩
theorem refsum_any (A : Option Addr) (c : Nat) (b : List Int) (w : World) (hr : Kd.C (Kd.int .u8) w A b.length b) (hc : b.length ≤ c) (hm : b.length ≤ 549755813888) (hb : F.Bytes b) :
    Calls Try.prog 22 #[.slice A b.length c] w fun e w' => ∃ v, e = .returned v ∧ Own w' w.heap.size 5 .u8 v (shaW b) ∧ Below w.heap.size w w' := by
  obtain ⟨k, hk⟩ := (F.refsum_ev b hm hb).rounds
  refine (casketref13_Sum.calls k A c b (shaW b) w hr hc hk).mono ?_
  rintro e w' ⟨v, rfl, h1, h2⟩
  exact ⟨v, rfl, Own.of_R h1, h2⟩
theorem same_dec (base1 base2 e : Nat) (v1 v2 : Value) (a b : List Int) (w : World) (h1 : Own w base1 e .u8 v1 a) (h2 : Own w base2 e .u8 v2 b) (hp : 0 < a.length) (hm : a.length ≤ 140737488355328) (hp2 : 0 < b.length) (hm2 : b.length ≤ 140737488355328) :
    Calls Try.prog 20 #[v1, v2] w fun e w' => e = .returned (.bool (decide (a = b))) ∧ Drawn0 w w' := by
  obtain ⟨g1, c1, rfl, _, hc1, hr1⟩ := h1.readsC hp (by omega)
  obtain ⟨g2, c2, rfl, _, hc2, hr2⟩ := h2.readsC hp2 (by omega)
  obtain ⟨k, hk⟩ := (F.same13_ev a b hm).rounds
  exact casketlaw13_same.calls k _ c1 a _ c2 b _ w hr1 hc1 hr2 hc2 hk
set_option maxHeartbeats 1000000 in
set_option maxRecDepth 100000 in
theorem shaothers_any (A0 : Option Addr) (c0 : Nat) (l0 : List Int) (A1 : Option Addr) (c1 : Nat) (l1 : List Int) (w : World) (hr0 : Kd.C (Kd.int .u8) w A0 l0.length l0) (hc0 : l0.length ≤ c0) (hr1 : Kd.C (Kd.int .u8) w A1 l1.length l1) (hc1 : l1.length ≤ c1) (hb0 : F.Bytes l0) (hb1 : F.Bytes l1) :
    Calls Try.prog 6 #[.slice A0 l0.length c0, .slice A1 l1.length c1] w fun e w' => e = .returned (.bool true) ∧ Below w.heap.size w w' := by
  have HR0 := Aside0.mk hr0
  have HR1 := Aside0.mk hr1
  have HB0 := Aside0.mk hb0
  have HB1 := Aside0.mk hb1
  clear hr0 hr1 hb0 hb1
  go_enter Try.func6, Try.ntmps6
  by_cases hl : (l0.length : Int) > 600
  · have q0 : ((600 : Int) < (l0.length : Int)) = True := eq_true (by omega)
    go_wp2_with fail
    refine (casketlaw13_awake.calls true _ Pure.awake13).mono ?_
    rintro e w1 ⟨rfl, L1⟩
    go_wp2
    go_ret
    exact ⟨rfl, L1⟩
  · have q0 : ((600 : Int) < (l0.length : Int)) = False := eq_false (by omega)
    by_cases hl1 : (l1.length : Int) > 600
    · have q1 : ((600 : Int) < (l1.length : Int)) = True := eq_true (by omega)
      go_wp2_with fail
      refine (casketlaw13_awake.calls true _ Pure.awake13).mono ?_
      rintro e w1 ⟨rfl, L1⟩
      go_wp2
      go_ret
      exact ⟨rfl, L1⟩
    · have q1 : ((600 : Int) < (l1.length : Int)) = False := eq_false (by omega)
      have n0 : l0.length ≤ 600 := by omega
      have n1 : l1.length ≤ 600 := by omega
      go_wp2_with fail
      refine (casketlaw13_awake.calls true _ Pure.awake13).mono ?_
      rintro e w1 ⟨rfl, L1⟩
      replace L1 := Aside0.mk L1
      go_wp2_with fail
      refine (sum_any A0 c0 l0 w1 (Kd.C_below HR0.out L1.out) hc0 (by omega)).mono ?_
      rintro e w2 ⟨v1, rfl, O1, l2⟩
      have L2 := Aside0.mk (below_then L1.out L1.out.size l2)
      replace O1 := Aside0.mk O1
      clear l2 L1
      go_wp2_with fail
      refine (sum_any A1 c1 l1 w2 (Kd.C_below HR1.out L2.out) hc1 (by omega)).mono ?_
      rintro e w3 ⟨v2, rfl, O2, l3⟩
      have L3 := Aside0.mk (below_then L2.out L2.out.size l3)
      replace O1 := Aside0.mk (O1.out.below l3)
      replace O2 := Aside0.mk O2
      clear l3 L2
      go_wp2_with fail
      refine (same_dec _ _ 5 v1 v2 (shaW l0) (shaW l1) w3 O1.out O2.out (by rw [shaW_length]; decide) (by rw [shaW_length]; decide) (by rw [shaW_length]; decide) (by rw [shaW_length]; decide)).mono ?_
      rintro e w4 ⟨rfl, ⟨nd, rfl⟩⟩
      have L4 := Aside0.mk (pw_below_drewN L3.out nd)
      generalize w3.drewN nd = w4 at L4 ⊢
      clear L3 O1 O2
      obtain ⟨bb, hbb⟩ : ∃ bb, bb = decide (shaW l0 = shaW l1) := ⟨_, rfl⟩
      rw [← hbb]
      replace hbb := Aside0.mk hbb
      go_wp2_with fail
      refine (refsum_any A0 c0 l0 w4 (Kd.C_below HR0.out L4.out) hc0 (by omega) HB0.out).mono ?_
      rintro e w5 ⟨v3, rfl, O1, l5⟩
      have L5 := Aside0.mk (below_then L4.out L4.out.size l5)
      replace O1 := Aside0.mk O1
      clear l5 L4
      go_wp2_with fail
      refine (refsum_any A1 c1 l1 w5 (Kd.C_below HR1.out L5.out) hc1 (by omega) HB1.out).mono ?_
      rintro e w6 ⟨v4, rfl, O2, l6⟩
      have L6 := Aside0.mk (below_then L5.out L5.out.size l6)
      replace O1 := Aside0.mk (O1.out.below l6)
      replace O2 := Aside0.mk O2
      clear l6 L5
      go_wp2_with fail
      refine (same_dec _ _ 5 v3 v4 (shaW l0) (shaW l1) w6 O1.out O2.out (by rw [shaW_length]; decide) (by rw [shaW_length]; decide) (by rw [shaW_length]; decide) (by rw [shaW_length]; decide)).mono ?_
      rintro e w7 ⟨rfl, ⟨nd, rfl⟩⟩
      have L7 := Aside0.mk (pw_below_drewN L6.out nd)
      generalize w6.drewN nd = w7 at L7 ⊢
      clear L6 O1 O2
      rw [← hbb.out]
      go_wp2_with fail
      refine (sum_any A0 c0 l0 w7 (Kd.C_below HR0.out L7.out) hc0 (by omega)).mono ?_
      rintro e w8 ⟨v5, rfl, O5, l8⟩
      have L8 := Aside0.mk (below_then L7.out L7.out.size l8)
      clear l8 L7
      have e32 := shaW_length l0
      obtain ⟨g5, c5, rfl, _⟩ := O5.cells (by rw [e32]; decide)
      rw [e32]
      clear O5 e32
      go_wp2
      go_ret
      exact ⟨rfl, L8.out⟩
end Go.Proofs.Ytgdogjnjbinoiaa.Q
