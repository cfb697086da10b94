/- What the call of casketlaw13.ShaCut answers: true, for any bytes and any cut; nothing below the memory that it makes is turned. -/
import Derived.Test.YtgdogjnjbinoiaaC0
import Derived.Test.YtgdogjnjbinoiaaCshaw
import Derived.Test.YtgdogjnjbinoiaaCref01
import Derived.Test.YtgdogjnjbinoiaaB7
import Derived.Test.YtgdogjnjbinoiaaPureShaSums
namespace Go.Proofs.Ytgdogjnjbinoiaa.Q
open Go.RowKit Go.Proofs.YtgdogjnjbinoiaaW.PrintWords Go.Proofs.YtgdogjnjbinoiaaW.PrintLast Go.Proofs.YtgdogjnjbinoiaaW.PrintMore Go.Proofs.Ytgdogjnjbinoiaa.H
attribute [local go_sem] max2_int min2_int max_two min_two
set_option linter.unusedVariables false
set_option linter.unusedSimpArgs false
/-- Two sums that are the same are found the same. -/
theorem same_own (base1 base2 e : Nat) (v1 v2 : Value) (a : List Int) (w : World) (h1 : Own w base1 e .u8 v1 a) (h2 : Own w base2 e .u8 v2 a) (hp : 0 < a.length) (hm : a.length ≤ 140737488355328) :
    Calls Try.prog 20 #[v1, v2] w fun e w' => e = .returned (.bool true) ∧ Drawn0 w w' := by
  obtain ⟨g1, c1, rfl, _, hc1, hr1⟩ := h1.readsC hp (by omega)
  obtain ⟨g2, c2, rfl, _, hc2, hr2⟩ := h2.readsC hp (by omega)
  obtain ⟨k, hk⟩ := (F.same13_yes a hm).rounds
  exact casketlaw13_same.calls k _ c1 a _ c2 a true w hr1 hc1 hr2 hc2 hk
theorem and2047 (n : Int) : 0 ≤ Go.bits .and .i64 n 2047 ∧ Go.bits .and .i64 n 2047 < 2048 := by
  have h2047 : (BitVec.ofInt 64 2047).toNat = 2 ^ 11 - 1 := by decide
  have key : (BitVec.ofInt 64 n &&& BitVec.ofInt 64 2047).toNat = (n % ((2 ^ 64 : Nat) : Int)).toNat % 2 ^ 11 := by
    rw [BitVec.toNat_and, BitVec.toNat_ofInt, h2047, Nat.and_two_pow_sub_one_eq_mod]
  have h : Go.bits .and .i64 n 2047 = IntKind.i64.wrap ((BitVec.ofInt 64 n &&& BitVec.ofInt 64 2047).toNat : Nat) := rfl
  rw [h, key, IntKind.wrap_i64]
  omega
theorem far_of_old {k : IntKind} {A : Option Addr} {l : List Int} {w : World} {g : Nat} (h : Kd.C (Kd.int k) w A l.length l) (hg : w.heap.size ≤ g) : l.length = 0 ∨ ∀ ad, A = some ad → some ad.block ≠ some g := by
  rcases C_old h with h | h
  · exact .inl h
  · right
    intro ad e h2
    have := h ad e
    have h2 := Option.some.inj h2
    omega
set_option maxHeartbeats 1000000 in
set_option maxRecDepth 100000 in
theorem shacut_any (A0 : Option Addr) (c0 : Nat) (l0 : List Int) (a1 : Int) (w : World) (hr : Kd.C (Kd.int .u8) w A0 l0.length l0) (hc0 : l0.length ≤ c0) :
    Calls Try.prog 4 #[.slice A0 l0.length c0, .int .i64 a1] w fun e w' => e = .returned (.bool true) ∧ Below w.heap.size w w' := by
  have HR := Aside0.mk hr
  clear hr
  go_enter Try.func4, Try.ntmps4
  by_cases hl : (l0.length : Int) > 2000
  · have q0 : ((2000 : Int) < (l0.length : Int)) = True := eq_true (by omega)
    go_wp2_with fail
    refine (casketlaw13_awake.calls true _ Pure.awake13).mono ?_
    rintro e w1 ⟨rfl, L1⟩
    go_wp2
    go_ret
    exact ⟨rfl, L1⟩
  · have q0 : ((2000 : Int) < (l0.length : Int)) = False := eq_false (by omega)
    obtain ⟨x, hx⟩ : ∃ x, Go.bits .and .i64 a1 2047 = x := ⟨_, rfl⟩
    have hx2 : 0 ≤ x := by rw [← hx]; exact (and2047 a1).1
    obtain ⟨kc, hkc⟩ : ∃ kc : Int, (if (l0.length : Int) < x then (l0.length : Int) else x) = kc := ⟨_, rfl⟩
    have hk0 : 0 ≤ kc := by rw [← hkc]; split <;> omega
    have hk1 : kc ≤ (l0.length : Int) := by rw [← hkc]; split <;> omega
    obtain ⟨i0, hi0, _, hsz0, _⟩ := info_parts info5
    obtain ⟨hcut1, hrd1, hcl1⟩ := print_take_of (P := Try.prog) (Value.int .u8) 0 22 5 .i64 Try.underlying22 hi0 hsz0 A0 c0 l0 kc hk0 hk1 hc0
    obtain ⟨A2, hcut2, hrd2, hcl2⟩ := print_drop_of (P := Try.prog) (Value.int .u8) 0 22 5 .i64 Try.underlying22 hi0 hsz0 A0 c0 l0 kc hk0 hk1 hc0
    have HR1 := Aside0.mk (Kd.C_of_reads (enc := Value.int .u8) (d := (0 : Int)) (h1 := fun _ => rfl) (hrd1 w (Kd.reads_of_C (enc := Value.int .u8) (d := (0 : Int)) (h1 := fun _ => rfl) HR.out)))
    have HR2 := Aside0.mk (Kd.C_of_reads (enc := Value.int .u8) (d := (0 : Int)) (h1 := fun _ => rfl) (hrd2 w (Kd.reads_of_C (enc := Value.int .u8) (d := (0 : Int)) (h1 := fun _ => rfl) HR.out)))
    clear hrd1 hrd2
    have hjoin := Aside0.mk (List.take_append_drop kc.toNat l0)
    have hn1 : (l0.take kc.toNat).length ≤ 2000 := by rw [List.length_take]; omega
    have hn2 : (l0.drop kc.toNat).length ≤ 2000 := by rw [List.length_drop]; omega
    generalize l0.take kc.toNat = b1 at *
    generalize l0.drop kc.toNat = b2 at *
    go_wp2_with fail
    refine (casketlaw13_awake.calls true _ Pure.awake13).mono ?_
    rintro e w1 ⟨rfl, L1⟩
    replace L1 := Aside0.mk L1
    go_wp2_with fail
    have hg1 : w.heap.size ≤ w1.heap.size := L1.out.size
    refine (write_any w1.heap.size A0 c0 [] b1 _ (HashRep.at0 w1 _ (by rfl)) (Kd.C_below HR1.out (L1.out.alloc hg1 _)) hcl1 (far_of_old HR1.out hg1) (by simp; omega)).mono ?_
    rintro e w2 ⟨rfl, H2, G2⟩
    replace L1 := Aside0.mk ((L1.out.alloc hg1 _).grown G2 (by simp; omega) (fun k hk => by injection hk with hk; omega))
    replace H2 := Aside0.mk H2.rep
    rw [List.nil_append] at H2
    clear G2
    go_wp2_with fail
    refine (write_any w1.heap.size A2 _ b1 b2 w2 H2.out (Kd.C_below HR2.out L1.out) hcl2 (far_of_old HR2.out hg1) (by omega)).mono ?_
    rintro e w3 ⟨rfl, H3, G3⟩
    replace L1 := Aside0.mk (L1.out.grown G3 L1.out.size (fun k hk => by injection hk with hk; omega))
    replace H3 := Aside0.mk H3.rep
    rw [hjoin.out] at H3
    clear G3 H2
    go_wp2_with fail
    refine (hashsum_any w1.heap.size l0 w3 H3.out (by omega)).mono ?_
    rintro e w4 ⟨v1, rfl, O1, l4⟩
    replace L1 := Aside0.mk (below_then L1.out L1.out.size l4)
    replace O1 := Aside0.mk O1
    clear l4 H3
    go_wp2_with fail
    refine (sum_any A0 c0 l0 w4 (Kd.C_below HR.out L1.out) hc0 (by omega)).mono ?_
    rintro e w5 ⟨v2, rfl, O2, l5⟩
    replace L1 := Aside0.mk (below_then L1.out L1.out.size l5)
    replace O1 := Aside0.mk (O1.out.below l5)
    replace O2 := Aside0.mk O2
    clear l5
    go_wp2_with fail
    refine (same_own _ _ 5 v1 v2 (shaW l0) w5 O1.out O2.out (by rw [shaW_length]; decide) (by rw [shaW_length]; decide)).mono ?_
    rintro e w6 ⟨rfl, ⟨nd, rfl⟩⟩
    go_wp2
    go_ret
    exact ⟨rfl, pw_below_drewN L1.out nd⟩
end Go.Proofs.Ytgdogjnjbinoiaa.Q
