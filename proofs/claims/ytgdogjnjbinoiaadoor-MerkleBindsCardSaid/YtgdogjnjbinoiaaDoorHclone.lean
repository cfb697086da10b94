/- A copy of bytes. -/
import Derived.Test.YtgdogjnjbinoiaaDoorDshaX
import Derived.Test.YtgdogjnjbinoiaaDoorHtzX
namespace Go.Proofs.YtgdogjnjbinoiaaDoor.Q
open Go.RowKit Go.Proofs.YtgdogjnjbinoiaaDoorW.PrintWords Go.Proofs.YtgdogjnjbinoiaaDoorW.PrintLast Go.Proofs.YtgdogjnjbinoiaaDoorW.PrintMore Go.Proofs.YtgdogjnjbinoiaaDoor.H
set_option linter.unusedVariables false
set_option linter.unusedSimpArgs false
theorem C_none' {w : World} {k : IntKind} {l : List Int} (h : Kd.C (Kd.int k) w none l.length l) : l = [] := by
  by_cases hn : l.length = 0
  · exact List.length_eq_zero_iff.1 hn
  · obtain ⟨ad, e, _⟩ := Kd.at_int h 0 (by omega) (by omega)
    cases e
set_option maxHeartbeats 1000000 in
theorem clone_any (A0 : Option Addr) (c0 : Nat) (l0 : List Int) (w : World) (hr0 : Kd.C (Kd.int .u8) w A0 l0.length l0) (hc0 : l0.length ≤ c0) (hm : l0.length ≤ 140737488355000) :
    Calls Tryd.prog 39 #[.slice A0 l0.length c0] w fun e w' => ∃ v0_ : Value, e = .returned (v0_) ∧ Kd.R (Kd.int .u8) 5 w' w.heap.size (fun _ => True) v0_ l0 ∧ Below w.heap.size w w' := by
    cases A0 with
    | none =>
      have heq : (binOp .eql 31 (.slice none 0 c0) (.slice none 0 0)).run Tryd.prog w = .ok (.bool true) w := by kernel_rfl
      obtain rfl := C_none' hr0
      clear hr0
      go_enter Tryd.func39, Tryd.ntmps39
      go_wp2
      go_ret
      exact ⟨_, rfl, (Own.nil w w.heap.size 5 .u8).toR, Below.refl _ _⟩
    | some ad =>
      have heq : (binOp .eql 31 (.slice (some ad) l0.length c0) (.slice none 0 0)).run Tryd.prog w = .ok (.bool false) w := by kernel_rfl
      have HR := Aside0.mk hr0
      have HR1 := Aside0.mk (Kd.C_below hr0 ((Below.refl _ w).alloc (Nat.le_refl _) (.cells (nums .u8 []).toArray 5)))
      have L0 := Aside0.mk ((Below.refl w.heap.size w).alloc (Nat.le_refl _) (.cells (nums .u8 []).toArray 5))
      clear hr0
      go_enter Tryd.func39, Tryd.ntmps39
      go_wp2_with (at_builtin; refine app_any (k := .u8) (l := []) (base := w.heap.size) (e := 5) (A := some ad) (c := c0) (m := l0.length) rfl _ _ 31 rfl Tryd.underlying31 1 info5 _ l0 rfl (Own.of_blk (Blk.at0 w _ .u8 [] _ rfl) (Nat.le_refl _) (by decide)) rfl HR1.out (by decide) (by simp; omega) (by simp) ?_; intro v1 w1 h1 h2 h3; have L1 := Aside0.mk (L0.out.grown h2 (by simp) (own_base (Own.of_blk (k := .u8) (l := []) (base := w.heap.size) (Blk.at0 w 5 .u8 [] _ rfl) (Nat.le_refl _) (by decide)).out)); replace h1 := Aside0.mk h1; clear h2 h3)
      go_ret
      rw [List.nil_append] at h1
      exact ⟨_, rfl, h1.out.toR, L1.out⟩
end Go.Proofs.YtgdogjnjbinoiaaDoor.Q
