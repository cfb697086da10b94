/- The row of ShaPieces: for every input the call answers true and leaves its arguments as they were; out of its walk and the pure statement. -/
import Derived.Test.YtgdogjnjbinoiaaRows
import Derived.Test.YtgdogjnjbinoiaaHShaPieces
import Derived.Deep.Matrix
import Derived.WalkKit
import Derived.ProofKit
import Derived.OpenShut
import Derived.ShutString
import Derived.ChangeOld
import Derived.Below
import Derived.SizedLaws
import Derived.Test.YtgdogjnjbinoiaaWAll
namespace Go.Proofs.Ytgdogjnjbinoiaa.shaPieces
open Go.ChangeShapes Go.WideShapes Go.ChangeAt Go.RowKit
open Go.ChangeMaps (open_string shut_string)
set_option linter.unusedVariables false
theorem own : ownKnob Try.prog.godebug = none := by kernel_rfl
theorem laidOut : laidOutB Try.prog = true := by kernel_rfl
/-- A slice of slices of bytes, opened: each of its rows is read. -/
theorem rows_of {H : Type} {enc : TypeId × Value → H} {P : Program} {w : World} {base : Nat} {held : Bool} {t e q : TypeId} {fuel : Nat} {a0 : Option Addr} {len0 cap0 : Nat} {x : DataW H × List MemPlace} (ht : P.underlying t = some (.slice e)) (he : P.underlying e = some (.slice q)) (hq : P.underlying q = some (.int .u8))
    (ce : P.cellsOf e = 1) (cq : P.cellsOf q = 1) (h : DataW.trod enc P w base (fun _ => true) held fuel t (Value.cells (.slice a0 len0 cap0)).toList = some x) :
    ∃ (A : Nat → Option Addr) (C : Nat → Nat) (Z : Nat → List Int), (∀ r, r < len0 → ∃ ad, a0 = some ad ∧ w.cell? (ad.add r) = some (.slice (A r) (Z r).length (C r))) ∧ (∀ r, r < len0 → (Z r).length ≤ C r) ∧ (∀ r, r < len0 → Go.Proofs.YtgdogjnjbinoiaaW.PrintWords.Kd.C (Go.Proofs.YtgdogjnjbinoiaaW.PrintWords.Kd.int .u8) w (A r) (Z r).length (Z r)) ∧ ∀ r, r < len0 → F.Bytes (Z r) := by
  rcases Go.Deep.open_int_rows ht he hq ce cq h with ⟨hcs, _⟩ | ⟨a, len, cap, A, L, C, Zf, hcs, _, hl, hm, _, hrow⟩
  · simp [Value.cells] at hcs
    obtain ⟨rfl, rfl, rfl⟩ := hcs
    exact ⟨fun _ => none, fun _ => 0, fun _ => [], fun r hr => absurd hr (by omega), fun r hr => absurd hr (by omega), fun r hr => absurd hr (by omega), fun r hr => absurd hr (by omega)⟩
  · simp [Value.cells] at hcs
    obtain ⟨rfl, rfl, rfl⟩ := hcs
    have hlen : ∀ r, r < len0 → ((Zf r).take (L r)).length = L r := fun r hr => by
      obtain ⟨_, h1, _, h2, _⟩ := hrow r (by omega)
      rw [List.length_take]
      omega
    refine ⟨A, C, fun r => (Zf r).take (L r), fun r hr => ⟨a, rfl, ?_⟩, fun r hr => ?_, fun r hr => ?_, fun r hr => ?_⟩
    · rw [hlen r hr]
      exact (hrow r (by omega)).1
    · rw [hlen r hr]
      exact (hrow r (by omega)).2.1
    · obtain ⟨_, h1, h3, h2, _, h4, h5⟩ := hrow r (by omega)
      rw [hlen r hr]
      refine Go.Proofs.YtgdogjnjbinoiaaW.PrintWords.Kd.C_of_reads (enc := Value.int .u8) (d := (0 : Int)) (h1 := fun _ => rfl) ⟨hlen r hr, by simp only [maxLen] at h3; omega, fun hp => ?_⟩
      cases hA : A r with
      | none =>
        have := h4 hA
        omega
      | some ad =>
        refine ⟨ad, rfl, fun j hj => ?_⟩
        rw [(h5 ad hA).2 j (by omega)]
        simp [List.getD_eq_getElem?_getD, List.getElem?_take_of_lt hj]
    · obtain ⟨_, h1, h3, h2, h6, _⟩ := hrow r (by omega)
      exact F.bytes_of (fun n hn => h6 n (List.mem_of_mem_take hn))
set_option maxRecDepth 100000 in
theorem lifted (os : Os) (started : os.Started) (H : Type) (enc : TypeId × Value → H) :
    ReturnsInHanded {} Try.checked os 7 .any (Rows.shaPiecesSpec.pre6 enc Try.prog Try.f7 Rows.shaPiecesRow.domain false) (Rows.shaPiecesSpec.post enc Try.prog Try.f7 false true false false) := by
  refine returnsInHanded_of_change_sized (C := Try.checked) own started (by kernel_rfl) Try.func7
    (ChangeSpec.witness6 (enc := enc) (C := Try.checked) false ⟨#[], #[.slice none 0 0], []⟩ 8 (by kernel_rfl) (by kernel_rfl) (by kernel_rfl) (by kernel_rfl)) ?_
  intro W base args ds gs before hval0 hW hcnd hsz0 _
  have hsz : (DataW.weightsEach Try.prog (Try.f7.params.toList ++ Rows.shaPiecesSpec.plain.varTypes Try.prog) (ds ++ gs)).all (· ≤ reachBytes) = true := hsz0
  have hval : ∀ (j : Nat) t v, Try.f7.params[j]? = some t → args[j]? = some v → Value.okWide Try.prog W .any base t v := hval0
  have hW' := hW
  obtain ⟨p, q, hA0, hV, rfl, hfz, hnd⟩ := hW
  have hA : DataW.TrodAll enc Try.prog W 0 (fun _ => true) true Try.f7.params.toList args.toList ds p := hA0
  rw [Try.params7] at hA hval hsz
  obtain ⟨v0, vs0, d0, ds0, p0, q0, hargs, rfl, rfl, h0, r0⟩ := trodAll_cons hA
  obtain ⟨rfl, rfl, rfl⟩ := trodAll_nil r0
  obtain rfl : args = #[v0] := by cases args; simp_all
  obtain ⟨rfl, rfl⟩ := trodVars_none hV
  obtain ⟨a0, len0, cap0, rfl⟩ := okWide_slice Try.underlying38 (hval 0 38 v0 rfl rfl)
  have k0 := h0
  have lt0 : ∀ x ∈ p0, x.block < W.heap.size := by obtain ⟨m, hm⟩ := k0; exact DataW.trod_lt m _ _ _ hm
  obtain ⟨A, C, Z, hcell, hle, hrd, hby⟩ : ∃ (A : Nat → Option Addr) (C : Nat → Nat) (Z : Nat → List Int), (∀ r, r < len0 → ∃ ad, a0 = some ad ∧ W.cell? (ad.add r) = some (.slice (A r) (Z r).length (C r))) ∧ (∀ r, r < len0 → (Z r).length ≤ C r) ∧ (∀ r, r < len0 → Go.Proofs.YtgdogjnjbinoiaaW.PrintWords.Kd.C (Go.Proofs.YtgdogjnjbinoiaaW.PrintWords.Kd.int .u8) W (A r) (Z r).length (Z r)) ∧ ∀ r, r < len0 → F.Bytes (Z r) := by
    obtain ⟨fuel, hf⟩ := h0
    exact rows_of Try.underlying38 Try.underlying22 Try.underlying5 (by kernel_rfl) (by kernel_rfl) hf
  clear hA0 hval0 hsz0 hsz
  refine (Q.shapieces_any a0 cap0 len0 A C Z W hcell hle hrd hby).mono fun e W' ⟨he, bel⟩ => ?_
  subst he
  exact ⟨_, rfl, _, _, _, [], _, [], hW', trodAll_mk1 (shut_bool Try.underlying4 _), (trodAll_cons_mk (Below.trod laidOut (by kernel_rfl) (of_decide_eq_true (by kernel_rfl)) k0 bel lt0) trodAll_mk0), rfl, bel.frame _, fun h => by cases h⟩
theorem over : Rows.shaPiecesRow.holds Try.pinned (OpenSpec.ofChange Rows.shaPiecesSpec) :=
  OpenClaim.holds_of_wide 7 Try.f7 rfl rfl rfl rfl rfl rfl rfl ⟨rfl, rfl, rfl, rfl, rfl⟩ rfl rfl rfl rfl rfl (by kernel_rfl) Try.func7 (by kernel_rfl)
    (of_decide_eq_true (by kernel_rfl)) (by unfold Func.isWrapper; first | (rw [if_pos (by decide +kernel)]; kernel_rfl) | (rw [if_neg (by decide +kernel)]; exact ⟨rfl, rfl⟩))
    (fun os started H enc _ => lifted os started H enc)
theorem proved : Rows.ShaPiecesSaid := over
end Go.Proofs.Ytgdogjnjbinoiaa.shaPieces
namespace Go.Proofs.Ytgdogjnjbinoiaa
/-- The row, under a short name, for the claim. -/
theorem shaPieces_holds : Rows.ShaPiecesSaid := shaPieces.proved
end Go.Proofs.Ytgdogjnjbinoiaa
