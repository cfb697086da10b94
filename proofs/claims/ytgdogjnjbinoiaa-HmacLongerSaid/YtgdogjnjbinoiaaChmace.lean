/- What the calls of these Go functions answer (contracts): hmac_Expand. Each under the conditions that it states. -/
import Derived.Test.YtgdogjnjbinoiaaC0
import Derived.Test.YtgdogjnjbinoiaaB13
import Derived.Test.YtgdogjnjbinoiaaDhmac
namespace Go.Proofs.Ytgdogjnjbinoiaa.Q
open Go.RowKit Go.Proofs.YtgdogjnjbinoiaaW.PrintWords Go.Proofs.YtgdogjnjbinoiaaW.PrintLast Go.Proofs.YtgdogjnjbinoiaaW.PrintMore
attribute [local go_sem] max2_int min2_int max_two min_two max_three min_three max_four min_four   -- for this text's walks alone
set_option linter.unusedVariables false
set_option linter.unusedSimpArgs false

/-! ### hmac_Expand: function 34 -/
open Go.Proofs.Ytgdogjnjbinoiaa.H
theorem hmac_Expand.calls (A0 : Option Addr) (c0 : Nat) (l0 : List Int) (A1 : Option Addr) (c1 : Nat) (l1 : List Int) (a2 : Int) (r1 : List Int) (r2 : Int) (w : World) (hr0 : Kd.C (Kd.int .u8) w A0 l0.length l0) (hc0 : l0.length ≤ c0) (hr1 : Kd.C (Kd.int .u8) w A1 l1.length l1) (hc1 : l1.length ≤ c1) (h : hmac_Expand.f l0 l1 a2 = some (r1, r2)) :
    Calls Try.prog 34 #[.slice A0 l0.length c0, .slice A1 l1.length c1, .int .i64 a2] w fun e w' => ∃ v0_ : Value, e = .returned (.tuple #[v0_, .int .i64 r2]) ∧ Kd.R (Kd.int .u8) 5 w' w.heap.size (fun _ => True) v0_ r1 ∧ Below w.heap.size w w' := by
  unfold hmac_Expand.f at h
  split at h
  · rename_i hm
    cases h
    refine (expand_none A0 c0 l0 A1 c1 l1 a2 w hm).mono ?_
    rintro e w' ⟨rfl, h2⟩
    exact ⟨_, rfl, (Own.nil w' w.heap.size 5 .u8).toR, h2⟩
  · rename_i hn
    split at h
    · rename_i hm
      cases h
      refine (expand_any A0 c0 l0 A1 c1 l1 a2 w hr0 hc0 hr1 hc1 hm.1 hm.2 (by omega) (by omega)).mono ?_
      rintro e w' ⟨v, rfl, h1, h2⟩
      exact ⟨v, rfl, h1.toR, h2⟩
    · cases h

end Go.Proofs.Ytgdogjnjbinoiaa.Q
