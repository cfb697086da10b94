/- The row of ChachaQuarters: for every four words the call answers true and leaves them as they were. -/
import Derived.Test.YtllaobhheokafaaRows
import Derived.Test.YtllaobhheokafaaHQuarters
import Derived.WalkKit
import Derived.ProofKit
import Derived.OpenShut
import Derived.ChangeOld
import Derived.Below
import Derived.SizedLaws
import Derived.WideKeyArr2
namespace Go.Proofs.Ytllaobhheokafaa.chachaQuarters
open Go.ChangeShapes Go.WideShapes Go.ChangeAt Go.RowKit
set_option linter.unusedVariables false
theorem own : ownKnob Try.prog.godebug = none := by kernel_rfl
theorem laidOut : laidOutB Try.prog = true := by kernel_rfl
/-- An array of four words that can be read: its four numbers. -/
theorem open4 {H : Type} {enc : TypeId × Value → H} {W : World} {base : Nat} {sp : Nat → Bool} {held : Bool} {xs : Array Value} {d : DataW H} {ps : List MemPlace} (hn : xs.size = 4)
    (hd : DataW.Trod enc Try.prog W base sp held 23 (.agg xs) d ps) : ∃ x0 x1 x2 x3 : Int, xs = #[.int .u32 x0, .int .u32 x1, .int .u32 x2, .int .u32 x3] := by
  obtain ⟨fuel, hf⟩ := hd
  cases fuel with
  | zero => simp [DataW.trod] at hf
  | succ m =>
    rw [DataW.trod_step] at hf
    unfold DataW.trodStep at hf
    have hu : Try.prog.underlying 23 = some (.array 4 22) := by kernel_rfl
    have hc4 : Try.prog.cellsOf 23 = 4 := by kernel_rfl
    have hc1 : Try.prog.cellsOf 22 = 1 := by kernel_rfl
    have he : Try.prog.underlying 22 = some (.int .u32) := by kernel_rfl
    simp only [hu, Value.cells] at hf
    rw [if_pos (by rw [hc4]; simpa using hn), hc1] at hf
    simp only [Option.map_eq_some_iff] at hf
    obtain ⟨ys, hy, _⟩ := hf
    obtain ⟨l, rfl⟩ : ∃ l : List Value, xs = l.toArray := ⟨xs.toList, by simp⟩
    match l, hn with
    | [y0, y1, y2, y3], _ =>
      rw [show List.range 4 = [0, 1, 2, 3] from rfl] at hy
      simp only [List.mapM_cons, List.mapM_nil, bind, Option.bind_eq_some_iff, pure] at hy
      obtain ⟨a0, h0, _, ⟨a1, h1, _, ⟨a2, h2, _, ⟨a3, h3, _⟩, _⟩, _⟩, _⟩ := hy
      obtain ⟨x0, e0, _, _⟩ := DataW.trod_int he h0
      obtain ⟨x1, e1, _, _⟩ := DataW.trod_int he h1
      obtain ⟨x2, e2, _, _⟩ := DataW.trod_int he h2
      obtain ⟨x3, e3, _, _⟩ := DataW.trod_int he h3
      refine ⟨x0, x1, x2, x3, ?_⟩
      have f0 : y0 = .int .u32 x0 := by simpa using e0
      have f1 : y1 = .int .u32 x1 := by simpa using e1
      have f2 : y2 = .int .u32 x2 := by simpa using e2
      have f3 : y3 = .int .u32 x3 := by simpa using e3
      rw [f0, f1, f2, f3]
set_option maxRecDepth 100000 in
theorem lifted (os : Os) (started : os.Started) (H : Type) (enc : TypeId × Value → H) :
    ReturnsInHanded {} Try.checked os 3 .any (Rows.chachaQuartersSpec.pre6 enc Try.prog Try.f3 Rows.chachaQuartersRow.domain false) (Rows.chachaQuartersSpec.post enc Try.prog Try.f3 false true false false) := by
  refine returnsInHanded_of_change_sized (C := Try.checked) own started (by kernel_rfl) Try.func3
    (ChangeSpec.witness6 (enc := enc) (C := Try.checked) false ⟨#[], #[.agg #[.int .u32 0, .int .u32 0, .int .u32 0, .int .u32 0]], []⟩ 8 (by kernel_rfl) (by kernel_rfl) (by kernel_rfl) (by kernel_rfl)) ?_
  intro W base args ds gs before hval0 hW hcnd hsz0 _
  have hval : ∀ (j : Nat) t v, Try.f3.params[j]? = some t → args[j]? = some v → Value.okWide Try.prog W .any base t v := hval0
  have hW' := hW
  obtain ⟨p, q, hA0, hV, rfl, hfz, hnd⟩ := hW
  have hA : DataW.TrodAll enc Try.prog W 0 (fun _ => true) true Try.f3.params.toList args.toList ds p := hA0
  rw [Try.params3] at hA hval
  obtain ⟨v0, vs0, d0, ds0, p0, q0, hargs, rfl, rfl, h0, r0⟩ := trodAll_cons hA
  obtain ⟨rfl, rfl, rfl⟩ := trodAll_nil r0
  obtain rfl : args = #[v0] := by cases args; simp_all
  obtain ⟨rfl, rfl⟩ := trodVars_none hV
  have k0 := h0
  have lt0 : ∀ x ∈ p0, x.block < W.heap.size := by obtain ⟨m, hm⟩ := k0; exact DataW.trod_lt m _ _ _ hm
  have hok := hval 0 23 v0 rfl rfl
  have hu : Try.prog.underlying 23 = some (.array 4 22) := by kernel_rfl
  have hc4 : Try.prog.cellsOf 23 = 4 := by kernel_rfl
  simp only [Value.okWide, hu] at hok
  obtain ⟨cs, rfl, hcs, _⟩ := hok
  obtain ⟨x0, x1, x2, x3, rfl⟩ := open4 (hcs.trans hc4) h0
  refine (Q.quarters_any x0 x1 x2 x3 W).mono fun e W' ⟨he, bel⟩ => ?_
  subst he
  exact ⟨_, rfl, _, _, _, [], _, [], hW', trodAll_mk1 (shut_bool Try.underlying4 _), (trodAll_cons_mk (Below.trod laidOut (by kernel_rfl) (of_decide_eq_true (by kernel_rfl)) k0 bel lt0) trodAll_mk0), rfl, bel.frame _, fun h => by cases h⟩
theorem over : Rows.chachaQuartersRow.holds Try.pinned (OpenSpec.ofChange Rows.chachaQuartersSpec) :=
  OpenClaim.holds_of_wide 3 Try.f3 rfl rfl rfl rfl rfl rfl rfl ⟨rfl, rfl, rfl, rfl, rfl⟩ rfl rfl rfl rfl rfl (by kernel_rfl) Try.func3 (by kernel_rfl)
    (of_decide_eq_true (by kernel_rfl)) (by unfold Func.isWrapper; first | (rw [if_pos (by decide +kernel)]; kernel_rfl) | (rw [if_neg (by decide +kernel)]; exact ⟨rfl, rfl⟩))
    (fun os started H enc _ => lifted os started H enc)
theorem proved : Rows.ChachaQuartersSaid := over
end Go.Proofs.Ytllaobhheokafaa.chachaQuarters
namespace Go.Proofs.Ytllaobhheokafaa
/-- The row, under a short name, for the claim. -/
theorem chachaQuarters_holds : Rows.ChachaQuartersSaid := chachaQuarters.proved
end Go.Proofs.Ytllaobhheokafaa
