/- The row of MerkleBinds and its card: for every input the call answers true and leaves its arguments as they were; out of its contract and the plain law. -/
import Derived.Test.YtgdogjnjbinoiaaDoorHrow
import Derived.Test.YtgdogjnjbinoiaaDoorCMerkleBinds
import Derived.Test.YtgdogjnjbinoiaaDoorHMerkleBinds
namespace Go.Proofs.YtgdogjnjbinoiaaDoor.merkleBinds
open Go.ChangeShapes Go.WideShapes Go.ChangeAt Go.RowKit
open Go.ChangeMaps (open_string shut_string)
set_option linter.unusedVariables false
set_option maxRecDepth 100000 in
theorem lifted (os : Os) (started : os.Started) (H : Type) (enc : TypeId × Value → H) :
    ReturnsInHanded {} Tryd.checked os 6 .any (fun w args => (Rows.merkleBindsSpec.pre enc Tryd.prog Tryd.f6 Rows.merkleBindsRow.domain false w args ∧ laidMetH Tryd.prog R.laidL w) ∧ sizedMet enc Tryd.prog Tryd.f6 (OpenSpec.ofChange Rows.merkleBindsSpec) false w args)
      (Rows.merkleBindsSpec.post enc Tryd.prog Tryd.f6 false true false false) := by
  refine returnsInHanded_of_change_and (C := Tryd.checked) (X := fun w _ => laidMetH Tryd.prog R.laidL w) (fun _ _ _ hh h => h.of_heap hh) R.own started (by kernel_rfl) Tryd.func6
    (ChangeSpec.witness_shaped (enc := enc) (C := Tryd.checked) (os := os) (X := fun w _ => laidMetH Tryd.prog R.laidL w) false (World.laidAll Tryd.prog os R.laidL) #[.int .i64 0, .int .i64 0, .slice none 0 0, .slice none 0 0, .slice none 0 0, .slice none 0 0] 8 (World.laidAll_os _ _ _)
      (World.shaped_of_ZipB (by kernel_rfl) (by kernel_rfl)) (by kernel_rfl) (by kernel_rfl) (by kernel_rfl)
      (by rw [MakeChecks.laidMetH_plain _ _ _ (by kernel_rfl)]; exact laidMet_laidAll _ (by kernel_rfl) (by kernel_rfl))) ?_
  intro W base args ds gs before hval0 hW _ _ hL _
  have hval : ∀ (j : Nat) t v, Tryd.f6.params[j]? = some t → args[j]? = some v → Value.okWide Tryd.prog W .any base t v := hval0
  have hW' := hW
  obtain ⟨p, q, hA0, hV, rfl, hfz, hnd⟩ := hW
  have hA : DataW.TrodAll enc Tryd.prog W 0 (fun _ => true) true Tryd.f6.params.toList args.toList ds p := hA0
  rw [Tryd.params6] at hA hval
  obtain ⟨v0, vs0, d0, ds0, p0, q0, hargs, rfl, rfl, h0, r0⟩ := trodAll_cons hA
  obtain ⟨v1, vs1, d1, ds1, p1, q1, rfl, rfl, rfl, h1, r1⟩ := trodAll_cons r0
  obtain ⟨v2, vs2, d2, ds2, p2, q2, rfl, rfl, rfl, h2, r2⟩ := trodAll_cons r1
  obtain ⟨v3, vs3, d3, ds3, p3, q3, rfl, rfl, rfl, h3, r3⟩ := trodAll_cons r2
  obtain ⟨v4, vs4, d4, ds4, p4, q4, rfl, rfl, rfl, h4, r4⟩ := trodAll_cons r3
  obtain ⟨v5, vs5, d5, ds5, p5, q5, rfl, rfl, rfl, h5, r5⟩ := trodAll_cons r4
  obtain ⟨rfl, rfl, rfl⟩ := trodAll_nil r5
  obtain rfl : args = #[v0, v1, v2, v3, v4, v5] := by cases args; simp_all
  obtain ⟨rfl, rfl⟩ := trodVars_none hV
  have k0 := h0
  have lt0 : ∀ x ∈ p0, x.block < W.heap.size := by obtain ⟨m, hm⟩ := k0; exact DataW.trod_lt m _ _ _ hm
  obtain ⟨x0, ev0, _, _, wx0⟩ := open_int Tryd.underlying3 (hval 0 3 v0 rfl rfl) h0
  subst ev0
  have k1 := h1
  have lt1 : ∀ x ∈ p1, x.block < W.heap.size := by obtain ⟨m, hm⟩ := k1; exact DataW.trod_lt m _ _ _ hm
  obtain ⟨x1, ev1, _, _, wx1⟩ := open_int Tryd.underlying3 (hval 1 3 v1 rfl rfl) h1
  subst ev1
  obtain ⟨a2, len2, cap2, rfl⟩ := okWide_slice Tryd.underlying22 (hval 2 22 v2 rfl rfl)
  have k2 := h2
  have lt2 : ∀ x ∈ p2, x.block < W.heap.size := by obtain ⟨m, hm⟩ := k2; exact DataW.trod_lt m _ _ _ hm
  obtain ⟨l2, e2, c2, w2, y2⟩ : ∃ l : List (List Int), l.length = len2 ∧ len2 ≤ cap2 ∧ Go.Proofs.YtgdogjnjbinoiaaDoorW.PrintWords.Kd.C (Go.Proofs.YtgdogjnjbinoiaaDoorW.PrintWords.Kd.slice 5 (Go.Proofs.YtgdogjnjbinoiaaDoorW.PrintWords.Kd.int .u8)) W a2 l.length l ∧ Q.AllBytes l := by
    obtain ⟨fuel, hf⟩ := h2
    exact R.rows_of Tryd.underlying22 Tryd.underlying31 Tryd.underlying5 (by kernel_rfl) (by kernel_rfl) hf
  subst e2
  obtain ⟨a3, len3, cap3, rfl⟩ := okWide_slice Tryd.underlying22 (hval 3 22 v3 rfl rfl)
  have k3 := h3
  have lt3 : ∀ x ∈ p3, x.block < W.heap.size := by obtain ⟨m, hm⟩ := k3; exact DataW.trod_lt m _ _ _ hm
  obtain ⟨l3, e3, c3, w3, y3⟩ : ∃ l : List (List Int), l.length = len3 ∧ len3 ≤ cap3 ∧ Go.Proofs.YtgdogjnjbinoiaaDoorW.PrintWords.Kd.C (Go.Proofs.YtgdogjnjbinoiaaDoorW.PrintWords.Kd.slice 5 (Go.Proofs.YtgdogjnjbinoiaaDoorW.PrintWords.Kd.int .u8)) W a3 l.length l ∧ Q.AllBytes l := by
    obtain ⟨fuel, hf⟩ := h3
    exact R.rows_of Tryd.underlying22 Tryd.underlying31 Tryd.underlying5 (by kernel_rfl) (by kernel_rfl) hf
  subst e3
  obtain ⟨a4, len4, cap4, rfl⟩ := okWide_slice Tryd.underlying22 (hval 4 22 v4 rfl rfl)
  have k4 := h4
  have lt4 : ∀ x ∈ p4, x.block < W.heap.size := by obtain ⟨m, hm⟩ := k4; exact DataW.trod_lt m _ _ _ hm
  obtain ⟨l4, e4, c4, w4, y4⟩ : ∃ l : List (List Int), l.length = len4 ∧ len4 ≤ cap4 ∧ Go.Proofs.YtgdogjnjbinoiaaDoorW.PrintWords.Kd.C (Go.Proofs.YtgdogjnjbinoiaaDoorW.PrintWords.Kd.slice 5 (Go.Proofs.YtgdogjnjbinoiaaDoorW.PrintWords.Kd.int .u8)) W a4 l.length l ∧ Q.AllBytes l := by
    obtain ⟨fuel, hf⟩ := h4
    exact R.rows_of Tryd.underlying22 Tryd.underlying31 Tryd.underlying5 (by kernel_rfl) (by kernel_rfl) hf
  subst e4
  obtain ⟨a5, len5, cap5, rfl⟩ := okWide_slice Tryd.underlying22 (hval 5 22 v5 rfl rfl)
  have k5 := h5
  have lt5 : ∀ x ∈ p5, x.block < W.heap.size := by obtain ⟨m, hm⟩ := k5; exact DataW.trod_lt m _ _ _ hm
  obtain ⟨l5, e5, c5, w5, y5⟩ : ∃ l : List (List Int), l.length = len5 ∧ len5 ≤ cap5 ∧ Go.Proofs.YtgdogjnjbinoiaaDoorW.PrintWords.Kd.C (Go.Proofs.YtgdogjnjbinoiaaDoorW.PrintWords.Kd.slice 5 (Go.Proofs.YtgdogjnjbinoiaaDoorW.PrintWords.Kd.int .u8)) W a5 l.length l ∧ Q.AllBytes l := by
    obtain ⟨fuel, hf⟩ := h5
    exact R.rows_of Tryd.underlying22 Tryd.underlying31 Tryd.underlying5 (by kernel_rfl) (by kernel_rfl) hf
  subst e5
  obtain ⟨kk, hk⟩ := (Q.MerkleBinds_ev x0 x1 l2 l3 l4 l5 y2 y3 y4 y5).rounds
  clear hA0 hval0
  refine (Q.casketlaw20_MerkleBinds.calls kk x0 x1 a2 cap2 l2 a3 cap3 l3 a4 cap4 l4 a5 cap5 l5 W w2 c2 w3 c3 w4 c4 w5 c5 hk (R.tab_of_laid hL)).mono fun e W' ⟨he, bel⟩ => ?_
  subst he
  exact ⟨_, rfl, _, _, _, [], _, [], hW', trodAll_mk1 (shut_bool Tryd.underlying4 _), (trodAll_cons_mk (Below.trod R.laidOut (by kernel_rfl) (of_decide_eq_true (by kernel_rfl)) k0 bel lt0) (trodAll_cons_mk (Below.trod R.laidOut (by kernel_rfl) (of_decide_eq_true (by kernel_rfl)) k1 bel lt1) (trodAll_cons_mk (Below.trod R.laidOut (by kernel_rfl) (of_decide_eq_true (by kernel_rfl)) k2 bel lt2) (trodAll_cons_mk (Below.trod R.laidOut (by kernel_rfl) (of_decide_eq_true (by kernel_rfl)) k3 bel lt3) (trodAll_cons_mk (Below.trod R.laidOut (by kernel_rfl) (of_decide_eq_true (by kernel_rfl)) k4 bel lt4) (trodAll_cons_mk (Below.trod R.laidOut (by kernel_rfl) (of_decide_eq_true (by kernel_rfl)) k5 bel lt5) trodAll_mk0)))))), rfl, bel.frame _, fun h => by cases h⟩
theorem holds : Rows.MerkleBindsSaid :=
  OpenClaim.holds_of_wide 6 Tryd.f6 rfl rfl rfl rfl rfl rfl rfl ⟨rfl, rfl, rfl, rfl, rfl⟩ rfl rfl rfl rfl rfl (by kernel_rfl) Tryd.func6 (by kernel_rfl)
    (of_decide_eq_true (by kernel_rfl)) (by unfold Func.isWrapper; first | (rw [if_pos (by decide +kernel)]; kernel_rfl) | (rw [if_neg (by decide +kernel)]; exact ⟨rfl, rfl⟩))
    (fun os started H enc _ => lifted os started H enc)
theorem card : Rows.MerkleBindsCardSaid :=
  Claim7.holds_tied_plain_at .later [] [.data, .data] true (true, "55c777401da8e1d81558061b4e452da0685271658019ba9d1926c348f9500865") false holds (fun _ h => by cases h) (by kernel_rfl) (fun _ h => by cases h) merkleBinds_row_tie rfl ⟨rfl, rfl⟩ (by kernel_rfl) rfl
    (fun f fn hf hfn => by
      obtain rfl : f = 6 := Option.some.inj ((show Tryd.prog.funcNamed "casket/casketlaw20.MerkleBinds" = some 6 by kernel_rfl).symm.trans hf) |>.symm
      obtain rfl : fn = Tryd.f6 := (Option.some.inj (Tryd.func6.symm.trans hfn)).symm
      exact ⟨by kernel_rfl, fun j t ht => by
        rw [Tryd.params6] at ht
        have hm : t ∈ [3, 3, 22, 22, 22, 22] := by simpa using Array.mem_of_getElem? ht
        have hall : ([3, 3, 22, 22, 22, 22].all fun u => !Tryd.prog.wantsStandIn u) = true := by kernel_rfl
        exact (show Tryd.prog.wantsStandIn t = false by simpa using List.all_eq_true.1 hall t hm)⟩)
    (by kernel_rfl)
end Go.Proofs.YtgdogjnjbinoiaaDoor.merkleBinds
namespace Go.Proofs.YtgdogjnjbinoiaaDoor
/-- The card, under a short name, for the claim. -/
theorem merkleBinds_holds : Rows.MerkleBindsCardSaid := merkleBinds.card
end Go.Proofs.YtgdogjnjbinoiaaDoor
