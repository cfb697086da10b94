/- What the calls of these Go functions answer (contracts): chacha_block. Each under the conditions that it states. -/
import Derived.Test.YtllaobhheokafaaC0
import Derived.Test.YtllaobhheokafaaHarr
import Derived.Test.YtllaobhheokafaaCchachab
import Derived.Test.YtllaobhheokafaaDchacha
namespace Go.Proofs.Ytllaobhheokafaa.Q
open Go.RowKit Go.Proofs.YtllaobhheokafaaW.PrintWords Go.Proofs.YtllaobhheokafaaW.PrintLast Go.Proofs.YtllaobhheokafaaW.PrintMore
attribute [local go_sem] max2_int min2_int max_two min_two max_three min_three max_four min_four   -- for this text's walks alone
set_option linter.unusedVariables false
set_option linter.unusedSimpArgs false

/-! ### chacha_block: function 43 -/
open Go.Proofs.Ytllaobhheokafaa.H
def chacha_turn.T0 : Bool × List (List Nat × List Nat) := (true, [([], []), ([], []), ([], []), ([], []), ([], []), ([4], [4]), ([5], [5]), ([], []), ([7], [7]), ([8], [8]), ([], []), ([10], [10]), ([11], [11]), ([], []), ([13], [13]), ([14], [14]), ([6, 9, 12, 15], [6, 9, 12, 15]), ([16], [16]), ([17], [17]), ([17], [17]), ([17], [17]), ([17], [17]), ([0, 0, 4, 5, 6, 7, 8, 9, 10, 11, 12, 13, 14, 15, 16, 17, 18], [0]), ([22, 18, 16, 0, 4, 5, 6, 7, 8, 9, 10, 11, 12, 13, 14, 15, 16, 17, 18], [18, 22]), ([1, 0, 1, 4, 5, 6, 7, 8, 9, 10, 11, 12, 13, 14, 15, 16, 17, 18, 19, 22, 23], [1]), ([24, 19, 23, 0, 1, 4, 5, 6, 7, 8, 9, 10, 11, 12, 13, 14, 15, 16, 17, 18, 19, 22, 23], [19, 24]), ([2, 0, 1, 2, 4, 5, 6, 7, 8, 9, 10, 11, 12, 13, 14, 15, 16, 17, 18, 19, 20, 22, 23, 24, 25], [2]), ([26, 20, 25, 0, 1, 2, 4, 5, 6, 7, 8, 9, 10, 11, 12, 13, 14, 15, 16, 17, 18, 19, 20, 22, 23, 24, 25], [20, 26]), ([3, 0, 1, 2, 3, 4, 5, 6, 7, 8, 9, 10, 11, 12, 13, 14, 15, 16, 17, 18, 19, 20, 21, 22, 23, 24, 25, 26, 27], [3]), ([28, 21, 27, 0, 1, 2, 3, 4, 5, 6, 7, 8, 9, 10, 11, 12, 13, 14, 15, 16, 17, 18, 19, 20, 21, 22, 23, 24, 25, 26, 27], [21, 28])])
def chacha_turn.B0 : List Nat := [0, 0, 0, 0, 0, 16, 48, 0, 128, 384, 0, 1024, 3072, 0, 8192, 24576, 65520, 131056, 262128, 262128, 262128, 262128, 524273, 4718577, 13631475, 30408691, 65011703, 132120567, 268435455, 536870911]
theorem chacha_turn.tab0 : rtab .any (opsOf Try.f73 0) = chacha_turn.T0 := by kernel_rfl
theorem chacha_turn.bits0 : waitsOk chacha_turn.T0.2 chacha_turn.B0 = true := by kernel_rfl
set_option maxHeartbeats 1000000 in
theorem lay_any (g t : Nat) (p : Int) (A : Option Addr) (c : Nat) (b l : List Int) (w0 w : World) (hr : Kd.C (Kd.int .u8) w0 A b.length b) (hc : b.length ≤ c)
    (hb : Below w0.heap.size w0 w) (hg0 : w0.heap.size ≤ g) (hg : Blk w g t .u32 l) (hp : 0 ≤ p) (hlen : p + ((b.length : Int) + 3) / 4 ≤ 16) (hl : l.length = 16) (hb32 : b.length ≤ 64) (hp2 : p ≤ 16) :
    Calls Try.prog 72 #[.int .i64 p, .slice A b.length c, .pointer (some ⟨g, 0, none⟩)] w fun e w' =>
      e = .returned (.tuple #[]) ∧ Blk w' g t .u32 (layN p b l b.length) ∧ w.grownBy w' (some g) ∧ Below w0.heap.size w0 w' := by
  have HR := Aside0.mk hr
  have HB := Aside0.mk hb
  have HG := Aside0.mk hg
  clear hr hb hg
  have HL := Aside0.mk hl
  clear hl
  go_enter Try.func72, Try.ntmps72
  go_wp2
  go_loopw [9] (fun i wr => ∃ k : Nat, k ≤ b.length ∧ i = .int .i64 k ∧ Aside0 (Blk wr g t .u32 (layN p b l k)) ∧ Aside0 (w.grownBy wr (some g)) ∧ Aside0 (Below w0.heap.size w0 wr)) (fun i _ => b.length - (intOf i).toNat)
  case atStart => exact ⟨0, Nat.zero_le _, rfl, HG, Aside0.mk (World.grownBy.refl _ _), HB⟩
  case round =>
    obtain ⟨k, hk, rfl, H1, H2, H3⟩ := hrel
    by_cases hlt : k < b.length
    · obtain ⟨ad, eA, hx⟩ := Kd.at_int HR.out (k : Int) (by omega) (by omega)
      cases eA
      have hx' : wr.cell? (ad.add k) = some (.int .u8 (rd b k)) := (H3.out.cell (World.block_lt_of_cell? w0 _ hx)).trans hx
      clear hx
      have p0 : (0 ≤ (k : Int)) = True := eq_true (by omega)
      have q0 : ((k : Int) < (b.length : Int)) = True := eq_true (by omega)
      have p1 : (0 ≤ p + (k : Int) / 4) = True := eq_true (by omega)
      have q1 : (p + (k : Int) / 4 < 16) = True := eq_true (by omega)
      have hcell := H1.out.cell (p + (k : Int) / 4) (by omega) (by rw [layN_length, HL.out]; omega)
      have hfz := H1.out.frozen (p + (k : Int) / 4).toNat
      go_wp2
      go_region
      have e1 := H1.out.set (p + (k : Int) / 4).toNat (Go.bits .or .u32 (rd (layN p b l k) (p + (k : Int) / 4)) (rd b k % 4294967296 * 2 ^ (8 * (k % 4)) % 4294967296))
      go_wp2
      go_roundw
      case rel =>
        exact ⟨k + 1, by omega, by go_num, ⟨e1.drew⟩, ⟨(H2.out.trans (grown_set _ _ _ _)).trans (grown_drew _ _)⟩, ⟨(H3.out.setCell hg0 _).drew⟩⟩
      case measure => simp [intOf]; omega
    · obtain rfl : k = b.length := by omega
      have q0 : ((b.length : Int) < (b.length : Int)) = False := eq_false (by omega)
      go_wp2
      go_end0
      exact ⟨rfl, H1.out, H2.out, H3.out⟩
set_option maxHeartbeats 1000000 in
theorem first_any (A0 : Option Addr) (c0 : Nat) (l0 : List Int) (a1 : Int) (A2 : Option Addr) (c2 : Nat) (l2 : List Int) (w : World) (hr0 : Kd.C (Kd.int .u8) w A0 l0.length l0) (hc0 : l0.length ≤ c0) (hr2 : Kd.C (Kd.int .u8) w A2 l2.length l2) (hc2 : l2.length ≤ c2)
   (h0 : l0.length = 32) (h2 : l2.length = 12) :
    Calls Try.prog 62 #[.slice A0 l0.length c0, .int .u32 a1, .slice A2 l2.length c2] w fun e w' =>
      e = .returned (.agg (nums .u32 (firstW l0 a1 l2)).toArray) ∧ Below w.heap.size w w' := by
  have HR0 := Aside0.mk hr0
  have HR2 := Aside0.mk hr2
  clear hr0 hr2
  have H0 := Aside0.mk h0
  have H2 := Aside0.mk h2
  clear h0 h2
  have hmf : ∀ (fn : Fn) (first cap : Array Value) (w : World), (Instr.makeFunc fn first cap).run Try.prog w = .ok (.func fn first cap) w := fun _ _ _ _ => rfl
  have B6 := Aside0.mk (Blk.at0 w 69 .u32 (List.replicate 16 0) _ rfl)
  have BW := fun A => Aside0.mk (Blk.at1 w A 69 .u32 consts _ rfl)
  go_enter Try.func62, Try.ntmps62
  go_wp2_with fail
  refine (lay_any (w0 := w) (w.heap.size + 1) _ 4 A0 c0 l0 consts _ HR0.out hc0 (((Below.refl _ _).alloc (Nat.le_refl _) _).alloc (by simp) _) (by omega) (BW _).out (by omega) (by have := H0.out; omega) rfl (by have := H0.out; omega) (by omega)).mono ?_
  rintro e w1 ⟨rfl, b1, g1, l1⟩
  have B1 := Aside0.mk b1
  have G1 := Aside0.mk g1
  have L1 := Aside0.mk l1
  have Z1 := Aside0.mk ((B6.out.alloc _).grown g1 (by simp))
  clear B6 BW b1 g1 l1
  have hc : w1.cell? ⟨w.heap.size + 1, 12, none⟩ = _ := B1.out.cellN 12 (by rw [layN_length]; decide)
  have hf := B1.out.frozen 12
  go_wp2_with fail
  clear hc hf
  refine (lay_any (w0 := w) (w.heap.size + 1) _ 13 A2 c2 l2 ((layN 4 l0 consts l0.length).set 12 a1) _ HR2.out hc2 (L1.out.setCell (by simp) _) (by omega) (B1.out.set 12 a1) (by omega) (by have := H2.out; omega) (by simp [layN_length, consts]) (by have := H2.out; omega) (by omega)).mono ?_
  rintro e w2 ⟨rfl, b2, g2, l2'⟩
  have B2 := Aside0.mk b2
  have L2 := Aside0.mk l2'
  have Z2 := Aside0.mk ((Z1.out.far (a := ⟨w.heap.size + 1, 12, none⟩) (by simp) (.int .u32 a1)).grown g2 (by simp))
  clear B1 G1 L1 Z1 b2 g2 l2'
  go_wp2_with (first | (refine load_blk rfl _ _ rfl rfl B2.out 16 22 (by kernel_rfl) (by kernel_rfl) (firstW_length l0 a1 l2) ?_) | (refine store_blk rfl _ _ _ rfl rfl (firstW l0 a1 l2) rfl Z2.out 16 (by kernel_rfl) rfl (firstW_length l0 a1 l2) ?_; intro w3 B3 g3 z3; replace B3 := Aside0.mk B3; replace g3 := Aside0.mk g3; replace z3 := Aside0.mk z3))
  have L3 := L2.out.grown g3.out (by have := L2.out.size; omega) (by simp)
  refine bodyPost_ret (results_blk rfl _ rfl B3.out 16 22 (by kernel_rfl) (by kernel_rfl) (firstW_length l0 a1 l2)) rfl ⟨rfl, L3⟩
set_option maxHeartbeats 1000000 in
set_option maxRecDepth 100000 in
theorem turn_any (g t : Nat) (i j k m : Int) (l : List Int) (w0 w : World) (hb : Below w0.heap.size w0 w) (hg0 : w0.heap.size ≤ g) (hg : Blk w g t .u32 l) (hl : l.length = 16)
    (i0 : 0 ≤ i) (i1 : i < 16) (j0 : 0 ≤ j) (j1 : j < 16) (k0 : 0 ≤ k) (k1 : k < 16) (m0 : 0 ≤ m) (m1 : m < 16) :
    Calls Try.prog 73 #[.int .i64 i, .int .i64 j, .int .i64 k, .int .i64 m, .pointer (some ⟨g, 0, none⟩)] w fun e w' =>
      e = .returned (.tuple #[]) ∧ Blk w' g t .u32 (turn4 l i j k m) ∧ w.grownBy w' (some g) ∧ Below w0.heap.size w0 w' := by
  have HB := Aside0.mk hb
  have HG := Aside0.mk hg
  have HL := Aside0.mk hl
  have I := Aside0.mk (And.intro i0 i1)
  have J := Aside0.mk (And.intro j0 j1)
  have KK := Aside0.mk (And.intro k0 k1)
  have M := Aside0.mk (And.intro m0 m1)
  replace i0 := eq_true i0
  replace i1 := eq_true i1
  replace j0 := eq_true j0
  replace j1 := eq_true j1
  replace k0 := eq_true k0
  replace k1 := eq_true k1
  replace m0 := eq_true m0
  replace m1 := eq_true m1
  clear hb hg hl
  go_enter Try.func73, Try.ntmps73
  go_wp2
  refine start_ (n := 30) (S := fun w' => Aside0 (Blk w' g t .u32 l)) (ds := [23, 25, 27, 29]) #[false, false, false, false, false, false, false, false, false, false, false, false, false, false, false, false, false, false, false, false, false, false, false, false, false, false, false, false, false, false] (by kernel_rfl) rfl rfl ⟨HG.out.drew⟩ (fun hHeld => ?_)
  refine with_tabW chacha_turn.tab0 chacha_turn.bits0 (fun HT_ HW_ => ?_)
  have GR := Aside0.mk (grown_drew w (some g))
  have BL := Aside0.mk (HB.out.drew)
  generalize w.drew = w2 at GR BL hHeld ⊢
  refine pure_ (i := 0) (N := some 10) (v := ?_) (a' := ?_) #[true, false, false, false, false, false, false, false, false, false, false, false, false, false, false, false, false, false, false, false, false, false, false, false, false, false, false, false, false, false] rfl rfl (any_of HT_.out (by kernel_rfl)) (fun _ _ _ h => h) (Or.inl ⟨by rfl, ?_⟩) ?_ ?_
  rotate_left
  · intro w'
    go_simp
    with_reducible rfl
  rotate_left
  · simp only [Act.put, List.setIfInBounds_toArray, List.set_cons_zero, List.set_cons_succ, i64_w, i32_w]
    rfl
  refine pure_ (i := 1) (N := some 11) (v := ?_) (a' := ?_) #[true, true, false, false, false, false, false, false, false, false, false, false, false, false, false, false, false, false, false, false, false, false, false, false, false, false, false, false, false, false] rfl rfl (any_of HT_.out (by kernel_rfl)) (fun _ _ _ h => h) (Or.inl ⟨by rfl, ?_⟩) ?_ ?_
  rotate_left
  · intro w'
    go_simp
    with_reducible rfl
  rotate_left
  · simp only [Act.put, List.setIfInBounds_toArray, List.set_cons_zero, List.set_cons_succ, i64_w, i32_w]
    rfl
  refine pure_ (i := 2) (N := some 12) (v := ?_) (a' := ?_) #[true, true, true, false, false, false, false, false, false, false, false, false, false, false, false, false, false, false, false, false, false, false, false, false, false, false, false, false, false, false] rfl rfl (any_of HT_.out (by kernel_rfl)) (fun _ _ _ h => h) (Or.inl ⟨by rfl, ?_⟩) ?_ ?_
  rotate_left
  · intro w'
    go_simp
    with_reducible rfl
  rotate_left
  · simp only [Act.put, List.setIfInBounds_toArray, List.set_cons_zero, List.set_cons_succ, i64_w, i32_w]
    rfl
  refine pure_ (i := 3) (N := some 13) (v := ?_) (a' := ?_) #[true, true, true, true, false, false, false, false, false, false, false, false, false, false, false, false, false, false, false, false, false, false, false, false, false, false, false, false, false, false] rfl rfl (any_of HT_.out (by kernel_rfl)) (fun _ _ _ h => h) (Or.inl ⟨by rfl, ?_⟩) ?_ ?_
  rotate_left
  · intro w'
    go_simp
    with_reducible rfl
  rotate_left
  · simp only [Act.put, List.setIfInBounds_toArray, List.set_cons_zero, List.set_cons_succ, i64_w, i32_w]
    rfl
  refine pure_ (i := 4) (N := some 14) (v := ?_) (a' := ?_) #[true, true, true, true, true, false, false, false, false, false, false, false, false, false, false, false, false, false, false, false, false, false, false, false, false, false, false, false, false, false] rfl rfl (any_of HT_.out (by kernel_rfl)) (fun _ _ _ h => h) (Or.inl ⟨by rfl, ?_⟩) ?_ ?_
  rotate_left
  · intro w'
    go_simp
    with_reducible rfl
  rotate_left
  · simp only [Act.put, List.setIfInBounds_toArray, List.set_cons_zero, List.set_cons_succ, i64_w, i32_w]
    rfl
  refine pure_ (i := 5) (N := some 15) (v := ?_) (a' := ?_) #[true, true, true, true, true, true, false, false, false, false, false, false, false, false, false, false, false, false, false, false, false, false, false, false, false, false, false, false, false, false] rfl rfl (any_of HT_.out (by kernel_rfl)) (fun _ _ _ h => h) (Or.inl ⟨by rfl, ?_⟩) ?_ ?_
  rotate_left
  · intro w'
    go_simp
    with_reducible rfl
  rotate_left
  · simp only [Act.put, List.setIfInBounds_toArray, List.set_cons_zero, List.set_cons_succ, i64_w, i32_w]
    rfl
  refine take_ (i := 6) (N := some 16) (v := ?_) (a' := ?_) #[true, true, true, true, true, true, true, false, false, false, false, false, false, false, false, false, false, false, false, false, false, false, false, false, false, false, false, false, false, false] rfl rfl (take_ofW HT_.out HW_.out (by kernel_rfl)) (fun _ _ _ h => h) (Or.inl ⟨by rfl, ?_⟩) hHeld ?_ ?_
  rotate_left
  · intro w' hS'
    have hc := hS'.out.cell i I.out.1 (by rw [HL.out]; exact I.out.2)
    go_simp
    with_reducible rfl
  rotate_left
  · simp only [Act.put, List.setIfInBounds_toArray, List.set_cons_zero, List.set_cons_succ, i64_w, i32_w]
    rfl
  refine pure_ (i := 7) (N := some 17) (v := ?_) (a' := ?_) #[true, true, true, true, true, true, true, true, false, false, false, false, false, false, false, false, false, false, false, false, false, false, false, false, false, false, false, false, false, false] rfl rfl (any_of HT_.out (by kernel_rfl)) (fun _ _ _ h => h) (Or.inl ⟨by rfl, ?_⟩) ?_ ?_
  rotate_left
  · intro w'
    go_simp
    with_reducible rfl
  rotate_left
  · simp only [Act.put, List.setIfInBounds_toArray, List.set_cons_zero, List.set_cons_succ, i64_w, i32_w]
    rfl
  refine pure_ (i := 8) (N := some 18) (v := ?_) (a' := ?_) #[true, true, true, true, true, true, true, true, true, false, false, false, false, false, false, false, false, false, false, false, false, false, false, false, false, false, false, false, false, false] rfl rfl (any_of HT_.out (by kernel_rfl)) (fun _ _ _ h => h) (Or.inl ⟨by rfl, ?_⟩) ?_ ?_
  rotate_left
  · intro w'
    go_simp
    with_reducible rfl
  rotate_left
  · simp only [Act.put, List.setIfInBounds_toArray, List.set_cons_zero, List.set_cons_succ, i64_w, i32_w]
    rfl
  refine take_ (i := 9) (N := some 19) (v := ?_) (a' := ?_) #[true, true, true, true, true, true, true, true, true, true, false, false, false, false, false, false, false, false, false, false, false, false, false, false, false, false, false, false, false, false] rfl rfl (take_ofW HT_.out HW_.out (by kernel_rfl)) (fun _ _ _ h => h) (Or.inl ⟨by rfl, ?_⟩) hHeld ?_ ?_
  rotate_left
  · intro w' hS'
    have hc := hS'.out.cell j J.out.1 (by rw [HL.out]; exact J.out.2)
    go_simp
    with_reducible rfl
  rotate_left
  · simp only [Act.put, List.setIfInBounds_toArray, List.set_cons_zero, List.set_cons_succ, i64_w, i32_w]
    rfl
  refine pure_ (i := 10) (N := some 20) (v := ?_) (a' := ?_) #[true, true, true, true, true, true, true, true, true, true, true, false, false, false, false, false, false, false, false, false, false, false, false, false, false, false, false, false, false, false] rfl rfl (any_of HT_.out (by kernel_rfl)) (fun _ _ _ h => h) (Or.inl ⟨by rfl, ?_⟩) ?_ ?_
  rotate_left
  · intro w'
    go_simp
    with_reducible rfl
  rotate_left
  · simp only [Act.put, List.setIfInBounds_toArray, List.set_cons_zero, List.set_cons_succ, i64_w, i32_w]
    rfl
  refine pure_ (i := 11) (N := some 21) (v := ?_) (a' := ?_) #[true, true, true, true, true, true, true, true, true, true, true, true, false, false, false, false, false, false, false, false, false, false, false, false, false, false, false, false, false, false] rfl rfl (any_of HT_.out (by kernel_rfl)) (fun _ _ _ h => h) (Or.inl ⟨by rfl, ?_⟩) ?_ ?_
  rotate_left
  · intro w'
    go_simp
    with_reducible rfl
  rotate_left
  · simp only [Act.put, List.setIfInBounds_toArray, List.set_cons_zero, List.set_cons_succ, i64_w, i32_w]
    rfl
  refine take_ (i := 12) (N := some 22) (v := ?_) (a' := ?_) #[true, true, true, true, true, true, true, true, true, true, true, true, true, false, false, false, false, false, false, false, false, false, false, false, false, false, false, false, false, false] rfl rfl (take_ofW HT_.out HW_.out (by kernel_rfl)) (fun _ _ _ h => h) (Or.inl ⟨by rfl, ?_⟩) hHeld ?_ ?_
  rotate_left
  · intro w' hS'
    have hc := hS'.out.cell k KK.out.1 (by rw [HL.out]; exact KK.out.2)
    go_simp
    with_reducible rfl
  rotate_left
  · simp only [Act.put, List.setIfInBounds_toArray, List.set_cons_zero, List.set_cons_succ, i64_w, i32_w]
    rfl
  refine pure_ (i := 13) (N := some 23) (v := ?_) (a' := ?_) #[true, true, true, true, true, true, true, true, true, true, true, true, true, true, false, false, false, false, false, false, false, false, false, false, false, false, false, false, false, false] rfl rfl (any_of HT_.out (by kernel_rfl)) (fun _ _ _ h => h) (Or.inl ⟨by rfl, ?_⟩) ?_ ?_
  rotate_left
  · intro w'
    go_simp
    with_reducible rfl
  rotate_left
  · simp only [Act.put, List.setIfInBounds_toArray, List.set_cons_zero, List.set_cons_succ, i64_w, i32_w]
    rfl
  refine pure_ (i := 14) (N := some 24) (v := ?_) (a' := ?_) #[true, true, true, true, true, true, true, true, true, true, true, true, true, true, true, false, false, false, false, false, false, false, false, false, false, false, false, false, false, false] rfl rfl (any_of HT_.out (by kernel_rfl)) (fun _ _ _ h => h) (Or.inl ⟨by rfl, ?_⟩) ?_ ?_
  rotate_left
  · intro w'
    go_simp
    with_reducible rfl
  rotate_left
  · simp only [Act.put, List.setIfInBounds_toArray, List.set_cons_zero, List.set_cons_succ, i64_w, i32_w]
    rfl
  refine take_ (i := 15) (N := some 25) (v := ?_) (a' := ?_) #[true, true, true, true, true, true, true, true, true, true, true, true, true, true, true, true, false, false, false, false, false, false, false, false, false, false, false, false, false, false] rfl rfl (take_ofW HT_.out HW_.out (by kernel_rfl)) (fun _ _ _ h => h) (Or.inl ⟨by rfl, ?_⟩) hHeld ?_ ?_
  rotate_left
  · intro w' hS'
    have hc := hS'.out.cell m M.out.1 (by rw [HL.out]; exact M.out.2)
    go_simp
    with_reducible rfl
  rotate_left
  · simp only [Act.put, List.setIfInBounds_toArray, List.set_cons_zero, List.set_cons_succ, i64_w, i32_w]
    rfl
  refine one_ (i := 16) (N := some 26) #[true, true, true, true, true, true, true, true, true, true, true, true, true, true, true, true, true, false, false, false, false, false, false, false, false, false, false, false, false, false] rfl rfl (one_of HT_.out (by kernel_rfl)) (by decide) (fun K hK => ?_)
  refine goes_ Try.func21 (by kernel_rfl) rfl #[.int .u32 (rd l i), .int .u32 (rd l j), .int .u32 (rd l k), .int .u32 (rd l m)] (by rfl) rfl rfl (by (try simp only [List.map_toArray, List.map_cons, List.map_nil]); first | done | rfl) ?_
  with_reducible refine (quarter_any _ _ _ _ _).mono ?_
  rintro e w' ⟨rfl, ⟨nd, rfl⟩⟩
  refine ⟨_, rfl, ?_⟩
  have n1_ := Aside0.mk (GR.out.trans (grown_drewN _ nd _))
  have n2_ := Aside0.mk (pw_below_drewN BL.out nd)
  refine hK.out _ _ ⟨hHeld.out.drewN nd⟩ (fun hHeld => ?_)
  clear GR BL hK K
  have GR := n1_
  have BL := n2_
  clear n1_ n2_
  generalize w2.drewN nd = w3 at hHeld GR BL ⊢
  refine norm_ (a' := ?_) ?_ ?_
  rotate_left
  · show Act.put _ (some 26) _ = _
    simp only [Act.put, List.setIfInBounds_toArray, List.set_cons_zero, List.set_cons_succ, i64_w, i32_w]
    rfl
  refine pure_ (i := 17) (N := some 9) (v := ?_) (a' := ?_) #[true, true, true, true, true, true, true, true, true, true, true, true, true, true, true, true, true, true, false, false, false, false, false, false, false, false, false, false, false, false] rfl rfl (any_of HT_.out (by kernel_rfl)) (fun _ _ _ h => h) (Or.inl ⟨by rfl, ?_⟩) ?_ ?_
  rotate_left
  · intro w'
    go_simp
    with_reducible rfl
  rotate_left
  · simp only [Act.put, List.setIfInBounds_toArray, List.set_cons_zero, List.set_cons_succ, i64_w, i32_w]
    rfl
  refine pure_ (i := 18) (N := some 27) (v := ?_) (a' := ?_) #[true, true, true, true, true, true, true, true, true, true, true, true, true, true, true, true, true, true, true, false, false, false, false, false, false, false, false, false, false, false] rfl rfl (any_of HT_.out (by kernel_rfl)) (fun _ _ _ h => h) (Or.inl ⟨by rfl, ?_⟩) ?_ ?_
  rotate_left
  · intro w'
    go_simp
    with_reducible rfl
  rotate_left
  · simp only [Act.put, List.setIfInBounds_toArray, List.set_cons_zero, List.set_cons_succ, i64_w, i32_w]
    rfl
  refine pure_ (i := 19) (N := some 28) (v := ?_) (a' := ?_) #[true, true, true, true, true, true, true, true, true, true, true, true, true, true, true, true, true, true, true, true, false, false, false, false, false, false, false, false, false, false] rfl rfl (any_of HT_.out (by kernel_rfl)) (fun _ _ _ h => h) (Or.inl ⟨by rfl, ?_⟩) ?_ ?_
  rotate_left
  · intro w'
    go_simp
    with_reducible rfl
  rotate_left
  · simp only [Act.put, List.setIfInBounds_toArray, List.set_cons_zero, List.set_cons_succ, i64_w, i32_w]
    rfl
  refine pure_ (i := 20) (N := some 29) (v := ?_) (a' := ?_) #[true, true, true, true, true, true, true, true, true, true, true, true, true, true, true, true, true, true, true, true, true, false, false, false, false, false, false, false, false, false] rfl rfl (any_of HT_.out (by kernel_rfl)) (fun _ _ _ h => h) (Or.inl ⟨by rfl, ?_⟩) ?_ ?_
  rotate_left
  · intro w'
    go_simp
    with_reducible rfl
  rotate_left
  · simp only [Act.put, List.setIfInBounds_toArray, List.set_cons_zero, List.set_cons_succ, i64_w, i32_w]
    rfl
  refine pure_ (i := 21) (N := some 30) (v := ?_) (a' := ?_) #[true, true, true, true, true, true, true, true, true, true, true, true, true, true, true, true, true, true, true, true, true, true, false, false, false, false, false, false, false, false] rfl rfl (any_of HT_.out (by kernel_rfl)) (fun _ _ _ h => h) (Or.inl ⟨by rfl, ?_⟩) ?_ ?_
  rotate_left
  · intro w'
    go_simp
    with_reducible rfl
  rotate_left
  · simp only [Act.put, List.setIfInBounds_toArray, List.set_cons_zero, List.set_cons_succ, i64_w, i32_w]
    rfl
  refine pure_ (i := 22) (N := some 31) (v := ?_) (a' := ?_) #[true, true, true, true, true, true, true, true, true, true, true, true, true, true, true, true, true, true, true, true, true, true, true, false, false, false, false, false, false, false] rfl rfl (any_of HT_.out (by kernel_rfl)) (fun _ _ _ h => h) (Or.inl ⟨by rfl, ?_⟩) ?_ ?_
  rotate_left
  · intro w'
    go_simp
    with_reducible rfl
  rotate_left
  · simp only [Act.put, List.setIfInBounds_toArray, List.set_cons_zero, List.set_cons_succ, i64_w, i32_w]
    rfl
  refine last_ (i := 23) (N := none) #[true, true, true, true, true, true, true, true, true, true, true, true, true, true, true, true, true, true, true, true, true, true, true, true, false, false, false, false, false, false] rfl rfl (one_of HT_.out (by kernel_rfl)) (by decide) (fun K hK => ?_)
  refine skip_ (by rfl) rfl (exec_store (ad := ⟨g, i.toNat, none⟩) (v := .int .u32 (qrA (rd l i) (rd l j) (rd l k) (rd l m))) rfl (by rfl) (by rfl) rfl (by kernel_rfl) (hHeld.out.cellN i.toNat (by simp [HL.out]; have := I.out; omega)) (hHeld.out.frozen _)) ?_
  have n0_ := Aside0.mk (hHeld.out.set i.toNat (qrA (rd l i) (rd l j) (rd l k) (rd l m)))
  have n1_ := Aside0.mk (GR.out.trans (grown_set _ g i.toNat (.int .u32 (qrA (rd l i) (rd l j) (rd l k) (rd l m)))))
  have n2_ := Aside0.mk (BL.out.setCell (p := ⟨g, i.toNat, none⟩) hg0 (.int .u32 (qrA (rd l i) (rd l j) (rd l k) (rd l m))))
  refine hK.out _ _ ?_
  clear hK K hHeld GR BL
  have hHeld := n0_
  have GR := n1_
  have BL := n2_
  clear n0_ n1_ n2_
  generalize World.setCell w3 _ _ = w4 at hHeld GR BL ⊢
  refine pure_ (i := 24) (N := some 32) (v := ?_) (a' := ?_) #[true, true, true, true, true, true, true, true, true, true, true, true, true, true, true, true, true, true, true, true, true, true, true, true, true, false, false, false, false, false] rfl rfl (any_of HT_.out (by kernel_rfl)) (fun _ _ _ h => h) (Or.inl ⟨by rfl, ?_⟩) ?_ ?_
  rotate_left
  · intro w'
    go_simp
    with_reducible rfl
  rotate_left
  · simp only [Act.put, List.setIfInBounds_toArray, List.set_cons_zero, List.set_cons_succ, i64_w, i32_w]
    rfl
  refine last_ (i := 25) (N := none) #[true, true, true, true, true, true, true, true, true, true, true, true, true, true, true, true, true, true, true, true, true, true, true, true, true, true, false, false, false, false] rfl rfl (one_of HT_.out (by kernel_rfl)) (by decide) (fun K hK => ?_)
  refine skip_ (by rfl) rfl (exec_store (ad := ⟨g, j.toNat, none⟩) (v := .int .u32 (qrB (rd l i) (rd l j) (rd l k) (rd l m))) rfl (by rfl) (by rfl) rfl (by kernel_rfl) (hHeld.out.cellN j.toNat (by simp [HL.out]; have := J.out; omega)) (hHeld.out.frozen _)) ?_
  have n0_ := Aside0.mk (hHeld.out.set j.toNat (qrB (rd l i) (rd l j) (rd l k) (rd l m)))
  have n1_ := Aside0.mk (GR.out.trans (grown_set _ g j.toNat (.int .u32 (qrB (rd l i) (rd l j) (rd l k) (rd l m)))))
  have n2_ := Aside0.mk (BL.out.setCell (p := ⟨g, j.toNat, none⟩) hg0 (.int .u32 (qrB (rd l i) (rd l j) (rd l k) (rd l m))))
  refine hK.out _ _ ?_
  clear hK K hHeld GR BL
  have hHeld := n0_
  have GR := n1_
  have BL := n2_
  clear n0_ n1_ n2_
  generalize World.setCell w4 _ _ = w5 at hHeld GR BL ⊢
  refine pure_ (i := 26) (N := some 33) (v := ?_) (a' := ?_) #[true, true, true, true, true, true, true, true, true, true, true, true, true, true, true, true, true, true, true, true, true, true, true, true, true, true, true, false, false, false] rfl rfl (any_of HT_.out (by kernel_rfl)) (fun _ _ _ h => h) (Or.inl ⟨by rfl, ?_⟩) ?_ ?_
  rotate_left
  · intro w'
    go_simp
    with_reducible rfl
  rotate_left
  · simp only [Act.put, List.setIfInBounds_toArray, List.set_cons_zero, List.set_cons_succ, i64_w, i32_w]
    rfl
  refine last_ (i := 27) (N := none) #[true, true, true, true, true, true, true, true, true, true, true, true, true, true, true, true, true, true, true, true, true, true, true, true, true, true, true, true, false, false] rfl rfl (one_of HT_.out (by kernel_rfl)) (by decide) (fun K hK => ?_)
  refine skip_ (by rfl) rfl (exec_store (ad := ⟨g, k.toNat, none⟩) (v := .int .u32 (qrC (rd l i) (rd l j) (rd l k) (rd l m))) rfl (by rfl) (by rfl) rfl (by kernel_rfl) (hHeld.out.cellN k.toNat (by simp [HL.out]; have := KK.out; omega)) (hHeld.out.frozen _)) ?_
  have n0_ := Aside0.mk (hHeld.out.set k.toNat (qrC (rd l i) (rd l j) (rd l k) (rd l m)))
  have n1_ := Aside0.mk (GR.out.trans (grown_set _ g k.toNat (.int .u32 (qrC (rd l i) (rd l j) (rd l k) (rd l m)))))
  have n2_ := Aside0.mk (BL.out.setCell (p := ⟨g, k.toNat, none⟩) hg0 (.int .u32 (qrC (rd l i) (rd l j) (rd l k) (rd l m))))
  refine hK.out _ _ ?_
  clear hK K hHeld GR BL
  have hHeld := n0_
  have GR := n1_
  have BL := n2_
  clear n0_ n1_ n2_
  generalize World.setCell w5 _ _ = w6 at hHeld GR BL ⊢
  refine pure_ (i := 28) (N := some 34) (v := ?_) (a' := ?_) #[true, true, true, true, true, true, true, true, true, true, true, true, true, true, true, true, true, true, true, true, true, true, true, true, true, true, true, true, true, false] rfl rfl (any_of HT_.out (by kernel_rfl)) (fun _ _ _ h => h) (Or.inl ⟨by rfl, ?_⟩) ?_ ?_
  rotate_left
  · intro w'
    go_simp
    with_reducible rfl
  rotate_left
  · simp only [Act.put, List.setIfInBounds_toArray, List.set_cons_zero, List.set_cons_succ, i64_w, i32_w]
    rfl
  refine last_ (i := 29) (N := none) #[true, true, true, true, true, true, true, true, true, true, true, true, true, true, true, true, true, true, true, true, true, true, true, true, true, true, true, true, true, true] rfl rfl (one_of HT_.out (by kernel_rfl)) (by decide) (fun K hK => ?_)
  refine skip_ (by rfl) rfl (exec_store (ad := ⟨g, m.toNat, none⟩) (v := .int .u32 (qrD (rd l i) (rd l j) (rd l k) (rd l m))) rfl (by rfl) (by rfl) rfl (by kernel_rfl) (hHeld.out.cellN m.toNat (by simp [HL.out]; have := M.out; omega)) (hHeld.out.frozen _)) ?_
  have n0_ := Aside0.mk (hHeld.out.set m.toNat (qrD (rd l i) (rd l j) (rd l k) (rd l m)))
  have n1_ := Aside0.mk (GR.out.trans (grown_set _ g m.toNat (.int .u32 (qrD (rd l i) (rd l j) (rd l k) (rd l m)))))
  have n2_ := Aside0.mk (BL.out.setCell (p := ⟨g, m.toNat, none⟩) hg0 (.int .u32 (qrD (rd l i) (rd l j) (rd l k) (rd l m))))
  refine hK.out _ _ ?_
  clear hK K hHeld GR BL
  have hHeld := n0_
  have GR := n1_
  have BL := n2_
  clear n0_ n1_ n2_
  generalize World.setCell w6 _ _ = w7 at hHeld GR BL ⊢
  refine done_ (done_of HT_.out (by kernel_rfl)) ?_
  go_outline
  go_wp2
  go_end0
  exact ⟨rfl, hHeld.out, GR.out, BL.out⟩
set_option maxHeartbeats 1000000 in
set_option maxRecDepth 100000 in
theorem turned_any (l : List Int) (w : World) (hl : l.length = 16) :
    Calls Try.prog 63 #[.agg (nums .u32 l).toArray] w fun e w' =>
      e = .returned (.agg (nums .u32 (rndN l 10)).toArray) ∧ Below w.heap.size w w' := by
  have HL := Aside0.mk hl
  clear hl
  have hmf : ∀ (fn : Fn) (first cap : Array Value) (w : World), (Instr.makeFunc fn first cap).run Try.prog w = .ok (.func fn first cap) w := fun _ _ _ _ => rfl
  go_enter Try.func63, Try.ntmps63
  go_wp2
  have B0 := Aside0.mk ((Blk.at0 w 69 .u32 l _ rfl).alloc (.cells (nums .u32 (List.replicate 16 0)).toArray 69))
  have Z0 := Aside0.mk (Blk.at1 w (.cells (nums .u32 l).toArray 69) 69 .u32 (List.replicate 16 0) _ rfl)
  have L0 := Aside0.mk (((Below.refl w.heap.size w).alloc (Nat.le_refl _) (.cells (nums .u32 l).toArray 69)).alloc (by simp) (.cells (nums .u32 (List.replicate 16 0)).toArray 69))
  change Code.wp _ _ _ _ ((w.alloc (.cells (nums .u32 l).toArray 69)).alloc (.cells (nums .u32 (List.replicate 16 0)).toArray 69))
  generalize (w.alloc (.cells (nums .u32 l).toArray 69)).alloc (.cells (nums .u32 (List.replicate 16 0)).toArray 69) = W0 at B0 Z0 L0 ⊢
  go_loopw [7] (fun i wr => ∃ n : Nat, n ≤ 10 ∧ i = .int .i64 n ∧ Aside0 (Blk wr w.heap.size 69 .u32 (rndN l n)) ∧ Aside0 (Blk wr (w.heap.size + 1) 69 .u32 (List.replicate 16 0)) ∧ Aside0 (Below w.heap.size w wr)) (fun i _ => 10 - (intOf i).toNat)
  case atStart => exact ⟨0, by omega, rfl, B0, Z0, L0⟩
  case round =>
    clear B0 Z0 L0
    obtain ⟨n, hn, rfl, B1, Z1, L1⟩ := hrel
    by_cases hlt : n < 10
    · have q0 : ((n : Int) < 10) = True := eq_true (by omega)
      go_wp2
      obtain ⟨wo, rfl⟩ : ∃ wo : World, wo = wr := ⟨_, rfl⟩
      go_loopw [9] (fun i wr => ∃ k : Nat, k ≤ 4 ∧ i = .int .i64 k ∧ Aside0 (Blk wr w.heap.size 69 .u32 (colN (rndN l n) k)) ∧ Aside0 (Blk wr (w.heap.size + 1) 69 .u32 (List.replicate 16 0)) ∧ Aside0 (Below w.heap.size w wr)) (fun i _ => 4 - (intOf i).toNat)
      case atStart => exact ⟨0, by omega, rfl, B1, Z1, L1⟩
      case round =>
        clear B1 Z1 L1
        obtain ⟨k, hk, rfl, B1, Z1, L1⟩ := hrel
        by_cases hlt2 : k < 4
        · have q1 : ((k : Int) < 4) = True := eq_true (by omega)
          go_wp2_with fail
          refine (turn_any (w0 := w) w.heap.size _ k (4 + k) (8 + k) (12 + k) (colN (rndN l n) k) _ L1.out (Nat.le_refl _) B1.out (by rw [colN_length, rndN_length]; exact HL.out) (by omega) (by omega) (by omega) (by omega) (by omega) (by omega) (by omega) (by omega)).mono ?_
          rintro e w1 ⟨rfl, b1, g1, l1⟩
          have n0_ := Aside0.mk b1
          have n1_ := Aside0.mk (Z1.out.grown g1 (by simp))
          have n2_ := Aside0.mk l1
          clear b1 g1 l1 B1 Z1 L1
          go_wp2
          go_roundw
          case rel => exact ⟨k + 1, by omega, by go_num, n0_, n1_, n2_⟩
          case measure => simp [intOf]; omega
        · have q1 : ((k : Int) < 4) = False := eq_false (by omega)
          have k4 : k = 4 := by omega
          replace B1 : Aside0 (Blk wr w.heap.size 69 .u32 (colN (rndN l n) 4)) := by rw [k4] at B1; exact B1
          clear k4
          go_wp2
          obtain ⟨wo, rfl⟩ : ∃ wo : World, wo = wr := ⟨_, rfl⟩
          go_loopw [22] (fun i wr => ∃ k : Nat, k ≤ 4 ∧ i = .int .i64 k ∧ Aside0 (Blk wr w.heap.size 69 .u32 (diaN (colN (rndN l n) 4) k)) ∧ Aside0 (Blk wr (w.heap.size + 1) 69 .u32 (List.replicate 16 0)) ∧ Aside0 (Below w.heap.size w wr)) (fun i _ => 4 - (intOf i).toNat)
          case atStart => exact ⟨0, by omega, rfl, B1, Z1, L1⟩
          case round =>
            clear B1 Z1 L1
            obtain ⟨k, hk, rfl, B1, Z1, L1⟩ := hrel
            by_cases hlt2 : k < 4
            · have q2 : ((k : Int) < 4) = True := eq_true (by omega)
              go_wp2_with fail
              refine (turn_any (w0 := w) w.heap.size _ k (4 + ((k : Int) + 1) % 4) (8 + ((k : Int) + 2) % 4) (12 + ((k : Int) + 3) % 4) (diaN (colN (rndN l n) 4) k) _ L1.out (Nat.le_refl _) B1.out (by rw [diaN_length, colN_length, rndN_length]; exact HL.out) (by omega) (by omega) (by omega) (by omega) (by omega) (by omega) (by omega) (by omega)).mono ?_
              rintro e w1 ⟨rfl, b1, g1, l1⟩
              have n0_ := Aside0.mk b1
              have n1_ := Aside0.mk (Z1.out.grown g1 (by simp))
              have n2_ := Aside0.mk l1
              clear b1 g1 l1 B1 Z1 L1
              go_wp2
              go_roundw
              case rel => exact ⟨k + 1, by omega, by go_num, n0_, n1_, n2_⟩
              case measure => simp [intOf]; omega
            · obtain rfl : k = 4 := by omega
              have q2 : (((4 : Nat) : Int) < 4) = False := eq_false (by omega)
              go_wp2
              go_roundw
              case rel => exact ⟨n + 1, by omega, by go_num, B1, Z1, L1⟩
              case measure => simp [intOf]; omega
    · obtain rfl : n = 10 := by omega
      have q0 : (((10 : Nat) : Int) < 10) = False := eq_false (by omega)
      have hlen : (rndN l 10).length = 16 := by rw [rndN_length]; exact HL.out
      replace hlen := Aside0.mk hlen
      go_wp2_with (first | (refine load_blk rfl _ _ rfl rfl B1.out 16 22 (by kernel_rfl) (by kernel_rfl) hlen.out ?_) | (refine store_blk rfl _ _ _ rfl rfl (rndN l 10) rfl Z1.out 16 (by kernel_rfl) rfl hlen.out ?_; intro w3 B3 g3 z3; replace B3 := Aside0.mk B3; replace g3 := Aside0.mk g3; replace z3 := Aside0.mk z3))
      have L3 := L1.out.grown g3.out (by have := L1.out.size; omega) (by simp)
      refine bodyPost_ret (results_blk rfl _ rfl B3.out 16 22 (by kernel_rfl) (by kernel_rfl) hlen.out) rfl ⟨rfl, L3⟩
set_option maxHeartbeats 1000000 in
set_option maxRecDepth 100000 in
theorem block_any (A0 : Option Addr) (c0 : Nat) (l0 : List Int) (a1 : Int) (A2 : Option Addr) (c2 : Nat) (l2 : List Int) (w : World) (hr0 : Kd.C (Kd.int .u8) w A0 l0.length l0) (hc0 : l0.length ≤ c0) (hr2 : Kd.C (Kd.int .u8) w A2 l2.length l2) (hc2 : l2.length ≤ c2)
   (h0 : l0.length = 32) (h2 : l2.length = 12) :
    Calls Try.prog 43 #[.slice A0 l0.length c0, .int .u32 a1, .slice A2 l2.length c2] w fun e w' =>
      ∃ v, e = .returned v ∧ Own w' w.heap.size 5 .u8 v (blockW l0 a1 l2) ∧ Below w.heap.size w w' := by
  have HR0 := Aside0.mk hr0
  have HR2 := Aside0.mk hr2
  clear hr0 hr2
  have H0 := Aside0.mk h0
  have H2 := Aside0.mk h2
  clear h0 h2
  have HFL := Aside0.mk (firstW_length l0 a1 l2)
  go_enter Try.func43, Try.ntmps43
  go_wp2_with fail
  refine (first_any A0 c0 l0 a1 A2 c2 l2 _ HR0.out hc0 HR2.out hc2 H0.out H2.out).mono ?_
  rintro e w1 ⟨rfl, l1⟩
  have L1 := Aside0.mk l1
  clear l1
  have hmk : ∀ w : World, (Instr.makeSlice 28 (.int .i64 0) (.int .i64 64)).run Try.prog w = .ok (.slice (some ⟨w.heap.size, 0, none⟩) 0 64) (w.alloc (.cells (nums .u8 (List.replicate 64 0)).toArray 5)) := fun _ => by kernel_rfl
  have HF := Aside0.mk (show blockW l0 a1 l2 = outN (rndN (firstW l0 a1 l2) 10) (firstW l0 a1 l2) 16 from rfl)
  generalize firstW l0 a1 l2 = F at HFL HF ⊢
  go_wp2_with (first | (refine store_blk rfl _ _ _ rfl rfl F rfl (Blk.at0 _ _ .u32 (List.replicate 16 0) _ rfl) 16 (by kernel_rfl) rfl HFL.out ?_; intro w3 B3 g3 z3; replace B3 := Aside0.mk B3; replace g3 := Aside0.mk g3; replace z3 := Aside0.mk z3) | (refine load_blk rfl _ _ rfl rfl (B3.out.alloc _) 16 22 (by kernel_rfl) (by kernel_rfl) HFL.out ?_))
  have hz3 : w1.heap.size < w3.heap.size := by rw [z3.out]; simp
  have hz1 := L1.out.size
  have L3 := Aside0.mk ((((L1.out.alloc L1.out.size _).grown g3.out (by simp; omega) (by intro q hq; injection hq with hq; omega)).alloc (by omega) (.cells (nums .u8 (List.replicate 64 0)).toArray 5)))
  have O3 := Aside0.mk (Own.room w3 w.heap.size 5 .u8 64 (by omega) (by decide))
  have B4 := Aside0.mk (B3.out.alloc (.cells (nums .u8 (List.replicate 64 0)).toArray 5))
  have hG : w1.heap.size < (w3.alloc (.cells (nums .u8 (List.replicate 64 0)).toArray 5)).heap.size := by simp; omega
  have hNe : (Value.slice (some ⟨w3.heap.size, 0, none⟩) 0 64).ownBlock ≠ some w1.heap.size := by simp [Value.ownBlock]; omega
  replace hNe := Aside0.mk hNe
  clear g3 z3 B3
  change Calls _ _ _ (w3.alloc (.cells (nums .u8 (List.replicate 64 0)).toArray 5)) _
  generalize w3.alloc (.cells (nums .u8 (List.replicate 64 0)).toArray 5) = w4 at L3 O3 B4 hG ⊢
  refine (turned_any F _ HFL.out).mono ?_
  rintro e w5 ⟨rfl, l5⟩
  have L5 := Aside0.mk (below_then L3.out L3.out.size l5)
  have O5 := Aside0.mk (O3.out.below l5)
  have B5 := Aside0.mk (B4.out.below l5)
  have hz5 := l5.size
  clear l5 L3 O3 B4
  have HTL := Aside0.mk (show (rndN F 10).length = 16 by rw [rndN_length]; exact HFL.out)
  generalize rndN F 10 = T at HF HTL ⊢
  go_wp2
  generalize Value.slice (some ⟨w3.heap.size, 0, none⟩) 0 64 = v8 at O5 hNe ⊢
  have hF1 := HF
  go_loopw [8, 18] (fun v i wr => ∃ k : Nat, k ≤ 16 ∧ i = .int .i64 k ∧ Aside0 (Own wr w.heap.size 5 .u8 v (outN T F k)) ∧ Aside0 (Blk wr w1.heap.size 69 .u32 F) ∧ Aside0 (Below w.heap.size w wr) ∧ Aside0 (v.ownBlock ≠ some w1.heap.size)) (fun _ i _ => 16 - (intOf i).toNat)
  case atStart => exact ⟨0, by omega, rfl, O5, B5, L5, hNe⟩
  case round =>
    clear O5 B5 L5 hNe hF1
    obtain ⟨k, hk, rfl, O1, B1, L1', N1⟩ := hrel
    by_cases hlt : k < 16
    · have q0 : ((k : Int) < 16) = True := eq_true (by omega)
      have hix := index_agg (P := Try.prog) (t := 69) (e := 22) (n := 16) (k := .u32) (l := T) (by kernel_rfl) (by kernel_rfl) (by kernel_rfl) HTL.out (k : Int) (by omega) (by omega)
      have hc : wr.cell? ⟨w1.heap.size, k, none⟩ = some (.int .u32 (rd F k)) := B1.out.cell (k : Int) (by omega) (by rw [HFL.out]; omega)
      have hlen := outN_length T F k
      go_wp2_with (at_builtin; refine app_blk (k := .u8) (l := outN T F k) (base := w.heap.size) (g2 := wr.heap.size) (c := 4) (t2 := 5) rfl _ _ 28 rfl Try.underlying28 1 info5 _ (le4 (rd T k + rd F k)) rfl (O1.out.alloc _) rfl (Blk.at0 _ _ _ _ _ rfl) (by omega) (by rw [hlen]; simp [le4]; omega) (by have := L1'.out.size; simp; omega) ?_; intro v' w' h1 h2 h3)
      have hlt1 := B1.out.lt
      refine ⟨⟨k + 1, by omega, by go_num, ⟨h1⟩, ⟨(B1.out.alloc _).grown h2 (Ne.symm N1.out)⟩, ⟨(L1'.out.alloc L1'.out.size _).grown h2 (by have := L1'.out.size; simp; omega) (own_base O1.out.out)⟩, ⟨?_⟩⟩, by simp [intOf]; omega⟩
      rcases h3 with h3 | h3
      · rw [h3]; exact N1.out
      · rw [h3]; simp; omega
    · obtain rfl : k = 16 := by omega
      have q0 : (((16 : Nat) : Int) < 16) = False := eq_false (by omega)
      go_wp2
      go_ret
      exact ⟨_, rfl, by rw [HF.out]; exact O1.out, L1'.out⟩
theorem chacha_block.calls (A0 : Option Addr) (c0 : Nat) (l0 : List Int) (a1 : Int) (A2 : Option Addr) (c2 : Nat) (l2 : List Int) (r : List Int) (w : World) (hr0 : Kd.C (Kd.int .u8) w A0 l0.length l0) (hc0 : l0.length ≤ c0) (hr2 : Kd.C (Kd.int .u8) w A2 l2.length l2) (hc2 : l2.length ≤ c2) (h : chacha_block.f l0 a1 l2 = some r) :
    Calls Try.prog 43 #[.slice A0 l0.length c0, .int .u32 a1, .slice A2 l2.length c2] w fun e w' => ∃ v0_ : Value, e = .returned (v0_) ∧ Kd.R (Kd.int .u8) 5 w' w.heap.size (fun _ => True) v0_ r ∧ Below w.heap.size w w' := by
  unfold chacha_block.f at h
  by_cases h0 : l0.length = 32
  · rw [if_pos h0] at h
    by_cases h2 : l2.length = 12
    · rw [if_pos h2] at h
      obtain rfl := Option.some.inj h
      exact (block_any A0 c0 l0 a1 A2 c2 l2 w hr0 hc0 hr2 hc2 h0 h2).mono fun e w' ⟨v, he, ho, hb⟩ => ⟨v, he, ho.toR, hb⟩
    · rw [if_neg h2] at h
      cases h
  · rw [if_neg h0] at h
    cases h

end Go.Proofs.Ytllaobhheokafaa.Q
