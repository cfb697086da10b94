/- The pure functions (plain Lean over whole numbers and lists) of: merkle_Root.
   The greatest power of two that is less than a number, as the program finds it. -/
import Derived.Test.YtgdogjnjbinoiaaDoorWWordsX
import Derived.Test.YtgdogjnjbinoiaaDoorHroot
import Derived.Test.YtgdogjnjbinoiaaDoorHtzX
import Derived.Test.YtgdogjnjbinoiaaDoorFsha
/-! ### Dmroot -/
section
namespace Go.Proofs.YtgdogjnjbinoiaaDoor.Q
open Go.RowKit Go.Proofs.YtgdogjnjbinoiaaDoorW.PrintWords Go.Proofs.YtgdogjnjbinoiaaDoorW.PrintLast Go.Proofs.YtgdogjnjbinoiaaDoorW.PrintMore
attribute [local go_sem] max2_int min2_int max_two min_two max_three min_three max_four min_four   -- for this text's walks alone
set_option linter.unusedVariables false
set_option linter.unusedSimpArgs false

/-! ### merkle_Root: function 16 -/
def merkle_Root.f (l0 : List (List Int)) : Option (List Int) := if l0.length ≤ 1000 ∧ ∀ x ∈ l0, x.length ≤ 1000000 then some (rootW l0) else none

end Go.Proofs.YtgdogjnjbinoiaaDoor.Q
end
/-! ### Hhalf -/
section
namespace Go.Proofs.YtgdogjnjbinoiaaDoor.Q
open Go.RowKit Go.Proofs.YtgdogjnjbinoiaaDoorW.PrintWords Go.Proofs.YtgdogjnjbinoiaaDoorW.PrintLast Go.Proofs.YtgdogjnjbinoiaaDoorW.PrintMore Go.Proofs.YtgdogjnjbinoiaaDoor.H
set_option linter.unusedVariables false
set_option linter.unusedSimpArgs false
def len8 : ByteArray := { data := #[0, 1, 2, 2, 3, 3, 3, 3, 4, 4, 4, 4, 4, 4, 4, 4, 5, 5, 5, 5, 5, 5, 5, 5, 5, 5, 5, 5, 5, 5, 5, 5, 6, 6, 6, 6, 6, 6, 6, 6, 6, 6, 6, 6, 6, 6, 6, 6, 6, 6, 6, 6, 6, 6, 6, 6, 6, 6, 6, 6, 6, 6, 6, 6, 7, 7, 7, 7, 7, 7, 7, 7, 7, 7, 7, 7, 7, 7, 7, 7, 7, 7, 7, 7, 7, 7, 7, 7, 7, 7, 7, 7, 7, 7, 7, 7, 7, 7, 7, 7, 7, 7, 7, 7, 7, 7, 7, 7, 7, 7, 7, 7, 7, 7, 7, 7, 7, 7, 7, 7, 7, 7, 7, 7, 7, 7, 7, 7, 8, 8, 8, 8, 8, 8, 8, 8, 8, 8, 8, 8, 8, 8, 8, 8, 8, 8, 8, 8, 8, 8, 8, 8, 8, 8, 8, 8, 8, 8, 8, 8, 8, 8, 8, 8, 8, 8, 8, 8, 8, 8, 8, 8, 8, 8, 8, 8, 8, 8, 8, 8, 8, 8, 8, 8, 8, 8, 8, 8, 8, 8, 8, 8, 8, 8, 8, 8, 8, 8, 8, 8, 8, 8, 8, 8, 8, 8, 8, 8, 8, 8, 8, 8, 8, 8, 8, 8, 8, 8, 8, 8, 8, 8, 8, 8, 8, 8, 8, 8, 8, 8, 8, 8, 8, 8, 8, 8, 8, 8, 8, 8, 8, 8, 8, 8, 8, 8, 8, 8, 8, 8, 8, 8, 8, 8, 8, 8] }
theorem len8_tab : (List.range 256).all (fun x => if h : x < len8.size then decide (x = 0) || decide (((len8[x]'h).toNat : Nat) = Nat.log2 x + 1) else false) = true := by kernel_rfl
theorem len8_at (x : Nat) (h0 : 0 < x) (h1 : x < 256) (h : x < len8.size) : ((len8[x]'h).toNat : Nat) = Nat.log2 x + 1 := by
  have := List.all_eq_true.mp len8_tab x (List.mem_range.mpr h1)
  rw [dif_pos h, Bool.or_eq_true, decide_eq_true_eq, decide_eq_true_eq] at this
  rcases this with h2 | h2
  · omega
  · exact h2
theorem log2_div (x k : Nat) (h : 2 ^ k ≤ x) : Nat.log2 (x / 2 ^ k) + k = Nat.log2 x := by
  have hp : 0 < 2 ^ k := Nat.pos_of_ne_zero (by simp)
  have hx : x ≠ 0 := by omega
  have hy : x / 2 ^ k ≠ 0 := by
    have := Nat.div_pos h hp
    omega
  have h1 : 2 ^ (x / 2 ^ k).log2 ≤ x / 2 ^ k := (Nat.le_log2 hy).mp (Nat.le_refl _)
  have h2 : x / 2 ^ k < 2 ^ ((x / 2 ^ k).log2 + 1) := (Nat.log2_lt hy).mp (Nat.lt_succ_self _)
  apply Nat.le_antisymm
  · rw [Nat.le_log2 hx, Nat.pow_add]
    exact (Nat.le_div_iff_mul_le hp).mp h1
  · have h3 : x < 2 ^ ((x / 2 ^ k).log2 + 1) * 2 ^ k := (Nat.div_lt_iff_lt_mul hp).mp h2
    rw [← Nat.pow_add] at h3
    have := (Nat.log2_lt hx).mpr h3
    omega
theorem log2_le8 (x : Nat) (h0 : 0 < x) (h : x < 256) : Nat.log2 x < 8 := (Nat.log2_lt (by omega)).mpr h
set_option maxHeartbeats 1000000 in
set_option maxRecDepth 100000 in
theorem len64_any (x : Nat) (w : World) (h0 : 0 < x) (h1 : x < 16777216) :
    Calls Tryd.prog 61 #[.int .u64 (x : Nat)] w fun e w' => e = .returned (.int .i64 (Nat.log2 x + 1 : Nat)) ∧ w' = w := by
  have q0 : (4294967296 ≤ (x : Int)) = False := eq_false (by omega)
  by_cases c1 : x < 65536
  · have q1 : (65536 ≤ (x : Int)) = False := eq_false (by omega)
    by_cases c2 : x < 256
    · have q2 : (256 ≤ (x : Int)) = False := eq_false (by omega)
      go_enter Tryd.func61, Tryd.ntmps61
      go_wp2
      go_ret
      refine ⟨?_, rfl⟩
      have hk := len8_at x h0 c2 c2
      unfold len8 at hk
      have hb := log2_le8 x h0 c2
      rw [hk, F.w64 (n := ((Nat.log2 x + 1 : Nat) : Int)) (by omega) (by omega), F.w64 (n := ((Nat.log2 x + 1 : Nat) : Int)) (by omega) (by omega)]
      rfl
    · have q2 : (256 ≤ (x : Int)) = True := eq_true (by omega)
      obtain ⟨y, hy⟩ : ∃ y, y = x / 256 := ⟨_, rfl⟩
      have hy1 : (x : Int) / 256 = (y : Nat) := by omega
      have hy2 : 0 < y := by omega
      have hy3 : y < 256 := by omega
      have hl := log2_div x 8 (by omega)
      rw [show (2 : Nat) ^ 8 = 256 by decide, ← hy] at hl
      clear hy
      replace hl := Aside0.mk hl
      go_enter Tryd.func61, Tryd.ntmps61
      go_wp2
      go_ret
      refine ⟨?_, rfl⟩
      have hk := len8_at y hy2 hy3 hy3
      unfold len8 at hk
      have hb := log2_le8 y hy2 hy3
      have hl := hl.out
      rw [hk, F.w64 (n := ((Nat.log2 y + 1 : Nat) : Int)) (by omega) (by omega), F.w64 (by omega) (by omega), show (8 : Int) + ((Nat.log2 y + 1 : Nat) : Int) = ((Nat.log2 x + 1 : Nat) : Int) by omega]
      rfl
  · have q1 : (65536 ≤ (x : Int)) = True := eq_true (by omega)
    obtain ⟨y, hy⟩ : ∃ y, y = x / 65536 := ⟨_, rfl⟩
    have hy1 : (x : Int) / 65536 = (y : Nat) := by omega
    have hy2 : 0 < y := by omega
    have hy3 : y < 256 := by omega
    have q2 : (256 ≤ (y : Int)) = False := eq_false (by omega)
    have hl := log2_div x 16 (by omega)
    rw [show (2 : Nat) ^ 16 = 65536 by decide, ← hy] at hl
    clear hy
    replace hl := Aside0.mk hl
    go_enter Tryd.func61, Tryd.ntmps61
    go_wp2
    go_ret
    refine ⟨?_, rfl⟩
    have hk := len8_at y hy2 hy3 hy3
    unfold len8 at hk
    have hb := log2_le8 y hy2 hy3
    have hl := hl.out
    rw [hk, F.w64 (n := ((Nat.log2 y + 1 : Nat) : Int)) (by omega) (by omega), F.w64 (by omega) (by omega), show (16 : Int) + ((Nat.log2 y + 1 : Nat) : Int) = ((Nat.log2 x + 1 : Nat) : Int) by omega]
    rfl
set_option maxHeartbeats 1000000 in
set_option maxRecDepth 100000 in
theorem len_any (x : Nat) (w : World) (h0 : 0 < x) (h1 : x < 16777216) :
    Calls Tryd.prog 54 #[.int .u64 (x : Nat)] w fun e w' => e = .returned (.int .i64 (Nat.log2 x + 1 : Nat)) ∧ w' = w := by
  go_enter Tryd.func54, Tryd.ntmps54
  go_wp2_with fail
  refine (len64_any x w h0 h1).mono ?_
  rintro e w2 ⟨rfl, hw⟩
  rw [hw]
  go_wp2
  go_ret
  exact ⟨rfl, rfl⟩
/-- The greatest power of two that is less than n. -/
def halfW (n : Nat) : Nat := 2 ^ Nat.log2 (n - 1)
set_option maxHeartbeats 1000000 in
set_option maxRecDepth 100000 in
theorem half_any (n : Nat) (w : World) (h0 : 2 ≤ n) (h1 : n ≤ 2000000) :
    Calls Tryd.prog 46 #[.int .i64 (n : Nat)] w fun e w' => e = .returned (.int .i64 (halfW n : Nat)) ∧ w' = w := by
  have hw1 : IntKind.u64.wrap ((n : Int) - 1) = ((n - 1 : Nat) : Int) := by rw [F.wu64 (by omega) (by omega)]; omega
  go_enter Tryd.func46, Tryd.ntmps46
  go_wp2_with fail
  refine (len_any (n - 1) w (by omega) (by omega)).mono ?_
  rintro e w2 ⟨rfl, hw⟩
  rw [hw]
  clear hw w2 hw1
  have hlt : Nat.log2 (n - 1) < 21 := (Nat.log2_lt (by omega)).mpr (by omega)
  have hs : ((Nat.log2 (n - 1) + 1 : Nat) : Int) - 1 = (Nat.log2 (n - 1) : Nat) := by omega
  obtain ⟨k, hk⟩ : ∃ k, k = Nat.log2 (n - 1) := ⟨_, rfl⟩
  rw [← hk] at hlt hs ⊢
  have hhw : halfW n = 2 ^ k := by rw [halfW, hk]
  clear hk
  go_wp2
  have hp : 2 ^ k ≤ 2 ^ 20 := Nat.pow_le_pow_right (by decide) (by omega)
  rw [show (2 : Nat) ^ 20 = 1048576 by decide] at hp
  have hv : wrap64 ((2 : Int) ^ k) = ((halfW n : Nat) : Int) := by
    rw [hhw, show ((2 : Int) ^ k) = ((2 ^ k : Nat) : Int) by push_cast; rfl]
    generalize 2 ^ k = q at hp ⊢
    exact F.w64 (by omega) (by omega)
  trace_state
  go_ret
  exact ⟨by rw [← hv]; rfl, rfl⟩
end Go.Proofs.YtgdogjnjbinoiaaDoor.Q
end
