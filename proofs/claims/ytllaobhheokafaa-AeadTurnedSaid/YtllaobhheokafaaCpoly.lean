/- What the calls of these Go functions answer (contracts): poly_MAC. Each under the conditions that it states. -/
import Derived.Test.YtllaobhheokafaaC0
import Derived.Test.YtllaobhheokafaaP9
import Derived.Test.YtllaobhheokafaaDpoly
namespace Go.Proofs.Ytllaobhheokafaa.Q
open Go.RowKit Go.Proofs.YtllaobhheokafaaW.PrintWords Go.Proofs.YtllaobhheokafaaW.PrintLast Go.Proofs.YtllaobhheokafaaW.PrintMore
attribute [local go_sem] max2_int min2_int max_two min_two max_three min_three max_four min_four   -- for this text's walks alone
set_option linter.unusedVariables false
set_option linter.unusedSimpArgs false

/-! ### poly_MAC: function 29 -/
open Go.Proofs.Ytllaobhheokafaa.H
theorem wrap_id {n : Int} (h0 : 0 ≤ n) (h1 : n < 18446744073709551616) : IntKind.u64.wrap n = n := by
  simp only [IntKind.wrap, IntKind.bits, IntKind.signed]
  simp
  omega
theorem of_room (l : List Int) (hb : ∀ x ∈ l, 0 ≤ x ∧ x < 256) (hl : l.length ≤ 17) (h16 : l.length = 17 → rd l 16 < 4) (k : Nat) (hk : k < l.length) (hv : 0 < ofV l k / 67108864) : 8 * k / 26 + 1 < 5 := by
  by_cases h12 : k ≤ 12
  · omega
  · exfalso
    have hx : 0 ≤ rd l k ∧ rd l k < 256 := by
      have : rd l k = l[k] := by simp [rd, List.getD_eq_getElem?_getD, hk]
      rw [this]
      exact hb _ (List.getElem_mem hk)
    have h4 : k = 16 → rd l k < 4 := fun e => by
      have h := h16 (by omega)
      rw [e]
      exact h
    rw [ofV, wrap_id hx.1 (by omega)] at hv
    generalize rd l k = x at hx h4 hv
    have hc : k = 13 ∨ k = 14 ∨ k = 15 ∨ k = 16 := by omega
    rcases hc with rfl | rfl | rfl | rfl
    · rw [show (2 : Int) ^ (8 * 13 % 26) = 1 by decide, wrap_id (by omega) (by omega)] at hv
      omega
    · rw [show (2 : Int) ^ (8 * 14 % 26) = 256 by decide, wrap_id (by omega) (by omega)] at hv
      omega
    · rw [show (2 : Int) ^ (8 * 15 % 26) = 65536 by decide, wrap_id (by omega) (by omega)] at hv
      omega
    · have := h4 rfl
      rw [show (2 : Int) ^ (8 * 16 % 26) = 16777216 by decide, wrap_id (by omega) (by omega)] at hv
      omega
theorem and8_range (x y : Int) : 0 ≤ Go.bits .and .u8 x y ∧ Go.bits .and .u8 x y < 256 := by
  simp only [Go.bits]
  simp only [IntKind.wrap, IntKind.bits, IntKind.signed]
  simp
  omega
theorem andN_bytes {l : List Int} (h : ∀ x ∈ l, 0 ≤ x ∧ x < 256) (p : Nat) (m : Int) : ∀ j, ∀ x ∈ andN l p m j, 0 ≤ x ∧ x < 256
  | 0 => h
  | j + 1 => fun x hx => by
    rw [andN] at hx
    rcases List.mem_or_eq_of_mem_set hx with h1 | h1
    · exact andN_bytes h p m j x h1
    · rw [h1]; exact and8_range _ _
theorem poly_MAC.calls (A0 : Option Addr) (c0 : Nat) (l0 : List Int) (A1 : Option Addr) (c1 : Nat) (l1 : List Int) (r1 : List Int) (r2 : Int) (w : World) (hr0 : Kd.C (Kd.int .u8) w A0 l0.length l0) (hc0 : l0.length ≤ c0) (hr1 : Kd.C (Kd.int .u8) w A1 l1.length l1) (hc1 : l1.length ≤ c1) (h : poly_MAC.f l0 l1 = some (r1, r2)) :
    Calls Try.prog 29 #[.slice A0 l0.length c0, .slice A1 l1.length c1] w fun e w' => ∃ v0_ : Value, e = .returned (.tuple #[v0_, .int .i64 r2]) ∧ Kd.R (Kd.int .u8) 5 w' w.heap.size (fun _ => True) v0_ r1 ∧ Below w.heap.size w w' := by
  unfold poly_MAC.f at h
  split at h
  · rename_i h32
    split at h
    · rename_i hm
      cases h
      have hck : ∀ x ∈ clampB l0, 0 ≤ x ∧ x < 256 := andN_bytes (andN_bytes (fun x hx => hm.2.1 x (List.mem_of_mem_take hx)) _ _ _) _ _ _
      have hcl := clampB_length l0 (by omega)
      refine (pmac_any A0 c0 l0 A1 c1 l1 w hr0 hc0 hr1 hc1 h32 hm.1 (fun k hk hv => of_room _ hck (by omega) (fun e => by omega) k hk hv) (fun k hk hv => of_room _ (fun x hx => hm.2.1 x (List.mem_of_mem_drop hx)) (by rw [List.length_drop]; omega) (fun e => by rw [List.length_drop] at e; omega) k hk hv) (fun m k hk hv => of_room _ (fun x hx => ?_) ?_ (fun e => ?_) k hk hv)).mono ?_
      · rw [List.mem_append] at hx
        rcases hx with hx | hx
        · exact hm.2.2 x (List.mem_of_mem_take (List.mem_of_mem_drop hx))
        · rw [List.mem_singleton] at hx
          omega
      · rw [List.length_append, pieceL, List.length_drop, List.length_take]
        simp only [List.length_cons, List.length_nil]
        omega
      · have hl : (pieceL l1 m).length = 16 := by rw [List.length_append] at e; simp only [List.length_cons, List.length_nil] at e; omega
        simp [rd, List.getD_eq_getElem?_getD, List.getElem?_append, hl]
      · rintro e w' ⟨v, rfl, h1, h2⟩
        exact ⟨v, rfl, h1.toR, h2⟩
    · cases h
  · rename_i h32
    cases h
    have q0 : ((l0.length : Int) != 32) = true := by simp; omega
    clear hr0 hr1
    go_enter Try.func29, Try.ntmps29
    go_wp2
    exact bodyPost_ret (results_tmp2 rfl _ _ _) rfl ⟨_, rfl, (Own.nil w w.heap.size 5 .u8).toR, Below.refl _ _⟩

end Go.Proofs.Ytllaobhheokafaa.Q
