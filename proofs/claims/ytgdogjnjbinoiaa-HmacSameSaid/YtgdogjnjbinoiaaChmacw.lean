/- What the calls of these Go functions answer (contracts): casketlaw14_awake. Each under the conditions that it states. -/
import Derived.Test.YtgdogjnjbinoiaaC0
import Derived.Lib.SmallJoins
import Derived.Test.YtgdogjnjbinoiaaB11
import Derived.Test.YtgdogjnjbinoiaaCshaw
import Derived.Test.YtgdogjnjbinoiaaChmac
import Derived.Test.YtgdogjnjbinoiaaDhmac
namespace Go.Proofs.Ytgdogjnjbinoiaa.Q
open Go.RowKit Go.Proofs.YtgdogjnjbinoiaaW.PrintWords Go.Proofs.YtgdogjnjbinoiaaW.PrintLast Go.Proofs.YtgdogjnjbinoiaaW.PrintMore
attribute [local go_sem] max2_int min2_int max_two min_two max_three min_three max_four min_four   -- for this text's walks alone
set_option linter.unusedVariables false
set_option linter.unusedSimpArgs false

/-! ### casketlaw14_awake: function 26 -/
open Go.Proofs.Ytgdogjnjbinoiaa.H Go.Joins
theorem own_cell0 {w : World} {base e g n c : Nat} {k : IntKind} {l : List Int} (h : Own w base e k (.slice (some ⟨g, 0, none⟩) n c) l) (i : Nat) (hi : i < l.length) : w.cell? ⟨g, i, none⟩ = some (.int k (rd l i)) := by
  have := h.out.cells (g := g) rfl i (.int k (rd l i)) (by rw [nums_getElem?]; simp [rd, List.getD_eq_getElem?_getD, hi])
  rwa [add_plain] at this
def jefe : List Int := [74, 101, 102, 101]
def nothing : List Int := [119, 104, 97, 116, 32, 100, 111, 32, 121, 97, 32, 119, 97, 110, 116, 32, 102, 111, 114, 32, 110, 111, 116, 104, 105, 110, 103, 63]
theorem jefe4 : (macW jefe [nothing]).take 4 = [91, 220, 193, 70] := by kernel_rfl
theorem jefeSame : hmac_Check.f 100 jefe nothing (macW jefe [nothing]) = some true := by kernel_rfl
set_option maxHeartbeats 1000000 in
set_option maxRecDepth 100000 in
theorem awake14_any (w : World) : Calls Try.prog 26 #[] w fun e w' => e = .returned (.bool true) ∧ Below w.heap.size w w' := by
  have h0a := run_convert_bytes_const_at (P := Try.prog) w 22 5 #[.int .u8 74, .int .u8 101, .int .u8 102, .int .u8 101] 4 4 w.heap.size rfl (by kernel_rfl) (by kernel_rfl)
  have h0b := run_convert_bytes_const_at (P := Try.prog) (w.alloc (.cells #[.int .u8 74, .int .u8 101, .int .u8 102, .int .u8 101] 5 (4, 5))) 22 5 #[.int .u8 119, .int .u8 104, .int .u8 97, .int .u8 116, .int .u8 32, .int .u8 100, .int .u8 111, .int .u8 32, .int .u8 121, .int .u8 97, .int .u8 32, .int .u8 119, .int .u8 97, .int .u8 110, .int .u8 116, .int .u8 32, .int .u8 102, .int .u8 111, .int .u8 114, .int .u8 32, .int .u8 110, .int .u8 111, .int .u8 116, .int .u8 104, .int .u8 105, .int .u8 110, .int .u8 103, .int .u8 63] 28 28 (w.heap.size + 1) (by simp) (by kernel_rfl) (by kernel_rfl)
  have C0a := Aside0.mk (Kd.C_below (lit_readsC w jefe 5 (4, 5) (by decide)) ((Below.refl _ _).alloc (Nat.le_refl _) (.cells (nums .u8 nothing).toArray 5 (28, 29))))
  have C0b := lit_readsC (w.alloc (.cells (nums .u8 jefe).toArray 5 (4, 5))) nothing 5 (28, 29) (by decide)
  rw [World.size_alloc] at C0b
  replace C0b := Aside0.mk C0b
  have L0 := Aside0.mk (((Below.refl w.heap.size w).alloc (Nat.le_refl _) (.cells (nums .u8 jefe).toArray 5 (4, 5))).alloc (by simp) (.cells (nums .u8 nothing).toArray 5 (28, 29)))
  go_enter Try.func26, Try.ntmps26
  go_wp2_with fail
  refine (mac_any (some ⟨w.heap.size, 0, none⟩) 4 jefe (some ⟨w.heap.size + 1, 0, none⟩) 28 nothing _ C0a.out (by decide) C0b.out (by decide) (by decide) (by decide)).mono ?_
  rintro e w1 ⟨v1, rfl, O1, l1⟩
  have L1 := Aside0.mk (below_then L0.out (by simp; omega) l1)
  clear l1 L0 h0a h0b C0a C0b
  have e32 := macW_length jefe [nothing]
  obtain ⟨g1, c1, rfl, _, hc1, hr1⟩ := O1.readsC (by rw [e32]; decide) (by rw [e32]; decide)
  have a0 := own_cell0 O1 0 (by rw [e32]; decide)
  have a1 := own_cell0 O1 1 (by rw [e32]; decide)
  have a2 := own_cell0 O1 2 (by rw [e32]; decide)
  have a3 := own_cell0 O1 3 (by rw [e32]; decide)
  rw [rd_of_take jefe4 _ (by decide)] at a0 a1 a2 a3
  change w1.cell? _ = some (.int .u8 91) at a0
  change w1.cell? _ = some (.int .u8 220) at a1
  change w1.cell? _ = some (.int .u8 193) at a2
  change w1.cell? _ = some (.int .u8 70) at a3
  have hjs := Aside0.mk jefeSame
  generalize macW jefe [nothing] = mm at e32 hc1 hr1 hjs
  replace hr1 := Aside0.mk hr1
  rw [e32]
  have h1a := run_convert_bytes_const_at (P := Try.prog) w1 22 5 #[.int .u8 74, .int .u8 101, .int .u8 102, .int .u8 101] 4 4 w1.heap.size rfl (by kernel_rfl) (by kernel_rfl)
  have h1b := run_convert_bytes_const_at (P := Try.prog) (w1.alloc (.cells #[.int .u8 74, .int .u8 101, .int .u8 102, .int .u8 101] 5 (4, 5))) 22 5 #[.int .u8 119, .int .u8 104, .int .u8 97, .int .u8 116, .int .u8 32, .int .u8 100, .int .u8 111, .int .u8 32, .int .u8 121, .int .u8 97, .int .u8 32, .int .u8 119, .int .u8 97, .int .u8 110, .int .u8 116, .int .u8 32, .int .u8 102, .int .u8 111, .int .u8 114, .int .u8 32, .int .u8 110, .int .u8 111, .int .u8 116, .int .u8 104, .int .u8 105, .int .u8 110, .int .u8 103, .int .u8 63] 28 28 (w1.heap.size + 1) (by simp) (by kernel_rfl) (by kernel_rfl)
  have C1a := Aside0.mk (Kd.C_below (lit_readsC w1 jefe 5 (4, 5) (by decide)) ((Below.refl _ _).alloc (Nat.le_refl _) (.cells (nums .u8 nothing).toArray 5 (28, 29))))
  have C1b := lit_readsC (w1.alloc (.cells (nums .u8 jefe).toArray 5 (4, 5))) nothing 5 (28, 29) (by decide)
  rw [World.size_alloc] at C1b
  replace C1b := Aside0.mk C1b
  have hcall := hmac_Check.calls 100 _ 4 jefe _ 28 nothing (some ⟨g1, 0, none⟩) c1 mm true _ C1a.out (by decide) C1b.out (by decide) (Kd.C_below hr1.out (((Below.refl w1.heap.size w1).alloc (Nat.le_refl _) (.cells (nums .u8 jefe).toArray 5 (4, 5))).alloc (by simp) (.cells (nums .u8 nothing).toArray 5 (28, 29)))) hc1 hjs.out
  rw [e32] at hcall
  replace hcall := Aside0.mk hcall
  have L2 := Aside0.mk ((L1.out.alloc L1.out.size (.cells (nums .u8 jefe).toArray 5 (4, 5))).alloc (by have := L1.out.size; simp; omega) (.cells (nums .u8 nothing).toArray 5 (28, 29)))
  clear O1 hc1 hr1 hjs C1a C1b e32
  go_wp2_with fail
  refine hcall.out.mono ?_
  rintro e w2 ⟨rfl, l2⟩
  have L3 := Aside0.mk (below_then L2.out (by have := L1.out.size; simp; omega) l2)
  clear hcall l2 h1a h1b
  go_wp2
  go_ret
  exact ⟨rfl, L3.out⟩
theorem casketlaw14_awake.calls (k : Nat) (r : Bool) (w : World) (h : casketlaw14_awake.f k = some r) :
    Calls Try.prog 26 #[] w fun e w' => e = .returned (.bool r) ∧ Below w.heap.size w w' := by
  have ha : casketlaw14_awake.f 100 = some true := by kernel_rfl
  have hb : Ev casketlaw14_awake.f true := Ev.of (fun k => casketlaw14_awake.mono k) ha
  obtain ⟨K, hK⟩ := hb
  have h1 := at_rounds (fun k => casketlaw14_awake.mono k) (Nat.le_max_left k K) h
  rw [hK _ (Nat.le_max_right k K)] at h1
  obtain rfl := Option.some.inj h1
  exact awake14_any w

end Go.Proofs.Ytgdogjnjbinoiaa.Q
