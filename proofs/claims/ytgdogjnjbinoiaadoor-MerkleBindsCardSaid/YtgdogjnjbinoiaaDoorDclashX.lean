/- The pure functions (plain Lean over whole numbers and lists) of: casketlaw20_clash.
   What the calls of these Go functions answer (contracts): casketlaw20_clash. Each under the conditions that it states. -/
import Derived.Test.YtgdogjnjbinoiaaDoorWWordsX
import Derived.Test.YtgdogjnjbinoiaaDoorHcl
import Derived.Test.YtgdogjnjbinoiaaDoorDshaX
import Derived.Test.YtgdogjnjbinoiaaDoorHclash
/-! ### Dclash -/
section
namespace Go.Proofs.YtgdogjnjbinoiaaDoor.Q
open Go.RowKit Go.Proofs.YtgdogjnjbinoiaaDoorW.PrintWords Go.Proofs.YtgdogjnjbinoiaaDoorW.PrintLast Go.Proofs.YtgdogjnjbinoiaaDoorW.PrintMore
attribute [local go_sem] max2_int min2_int max_two min_two max_three min_three max_four min_four   -- for this text's walks alone
set_option linter.unusedVariables false
set_option linter.unusedSimpArgs false

/-! ### casketlaw20_clash: function 25 -/
open Classical in
/-- The search, at the places that the law asks for. -/
noncomputable def casketlaw20_clash.f (k : Nat) (a0 a1 a2 : Int) (l3 l4 l5 l6 : List (List Int)) (a7 : Int) : Option (List Int × List Int × Bool × List Int × List Int × Int) :=
  if a0 = 0 ∧ a7 = 0 ∧ 1 ≤ a1 ∧ a1 ≤ 1048576 ∧ 0 ≤ a2 ∧ Pairs l3 l4 l5 l6 a2.toNat ∧ cntW a1.toNat 0 a1.toNat a2 (a2 + l3.length - 1) ≤ l5.length ∧ cntW a1.toNat 0 a1.toNat a2 (a2 + l3.length - 1) ≤ l6.length then
    some ((clashW a1.toNat l3 l4 l5 l6 a2.toNat 0 a1.toNat 0).1, (clashW a1.toNat l3 l4 l5 l6 a2.toNat 0 a1.toNat 0).2.1, (clashW a1.toNat l3 l4 l5 l6 a2.toNat 0 a1.toNat 0).2.2, mdW a1.toNat l3 a2.toNat 0 a1.toNat l5, mdW a1.toNat l4 a2.toNat 0 a1.toNat l6, ((cntW a1.toNat 0 a1.toNat a2 (a2 + l3.length - 1) : Nat) : Int))
  else none
theorem casketlaw20_clash.mono : ∀ a0 a1 a2 a3 a4 a5 a6 a7 k, LeO (casketlaw20_clash.f k a0 a1 a2 a3 a4 a5 a6 a7) (casketlaw20_clash.f (k + 1) a0 a1 a2 a3 a4 a5 a6 a7) := fun _ _ _ _ _ _ _ _ _ => LeO.refl _

end Go.Proofs.YtgdogjnjbinoiaaDoor.Q
end
/-! ### Cclash -/
section
namespace Go.Proofs.YtgdogjnjbinoiaaDoor.Q
open Go.RowKit Go.Proofs.YtgdogjnjbinoiaaDoorW.PrintWords Go.Proofs.YtgdogjnjbinoiaaDoorW.PrintLast Go.Proofs.YtgdogjnjbinoiaaDoorW.PrintMore
attribute [local go_sem] max2_int min2_int max_two min_two max_three min_three max_four min_four   -- for this text's walks alone
set_option linter.unusedVariables false
set_option linter.unusedSimpArgs false

/-! ### casketlaw20_clash: function 25 -/
theorem casketlaw20_clash.calls (k : Nat) (a0 a1 a2 : Int) (A3 : Option Addr) (c3 : Nat) (l3 : List (List Int)) (A4 : Option Addr) (c4 : Nat) (l4 : List (List Int)) (A5 : Option Addr) (c5 : Nat) (l5 : List (List Int)) (A6 : Option Addr) (c6 : Nat) (l6 : List (List Int)) (a7 : Int) (r1 r2 : List Int) (r3 : Bool) (r4 r5 : List Int) (r6 : Int) (w : World)
    (hr3 : Kd.C (Kd.slice 5 (Kd.int .u8)) w A3 l3.length l3) (hr4 : Kd.C (Kd.slice 5 (Kd.int .u8)) w A4 l4.length l4) (hr5 : Kd.C (Kd.slice 5 (Kd.int .u8)) w A5 l5.length l5) (hr6 : Kd.C (Kd.slice 5 (Kd.int .u8)) w A6 l6.length l6) (h : casketlaw20_clash.f k a0 a1 a2 l3 l4 l5 l6 a7 = some (r1, r2, r3, r4, r5, r6)) :
    Calls Tryd.prog 25 #[.int .i64 a0, .int .i64 a1, .int .i64 a2, .slice A3 l3.length c3, .slice A4 l4.length c4, .slice A5 l5.length c5, .slice A6 l6.length c6, .int .i64 a7] w fun e w' => ∃ v0 v1 v3 v4, e = .returned (.tuple #[.agg #[v0, v1], .bool r3, v3, v4, .int .i64 r6]) ∧ SL w' v0 r1 ∧ SL w' v1 r2 ∧ SL w' v3 r4 ∧ SL w' v4 r5 ∧ Below w.heap.size w w' := by
  unfold casketlaw20_clash.f at h
  split at h
  case isFalse => cases h
  rename_i hh
  obtain ⟨rfl, rfl, h1, h2, h3, H, h5, h6⟩ := hh
  obtain ⟨N, rfl⟩ : ∃ N : Nat, a1 = N := ⟨a1.toNat, by omega⟩
  obtain ⟨I, rfl⟩ : ∃ I : Nat, a2 = I := ⟨a2.toNat, by omega⟩
  rw [Int.toNat_natCast] at h H h5 h6
  rw [Int.toNat_natCast] at h
  have hc := clash_any H A3 c3 A4 c4 A5 c5 A6 c6 N 0 N 0 w (by omega) (by omega) (by omega) (by omega) (by omega) hr3 hr4 hr5 hr6
  simp only [Option.some.injEq, Prod.mk.injEq] at h
  obtain ⟨e1, e2, e3, e4, e5, e6⟩ := h
  rw [List.drop_zero, List.drop_zero, e1, e2, e3, e4, e5, Nat.zero_add, e6] at hc
  exact hc

end Go.Proofs.YtgdogjnjbinoiaaDoor.Q
end
