import Derived.Test.YtgdogjnjbinoiaaB7
namespace Go.Proofs.Ytgdogjnjbinoiaa.Q
open Go.RowKit Go.Proofs.YtgdogjnjbinoiaaW.PrintWords Go.Proofs.YtgdogjnjbinoiaaW.PrintLast Go.Proofs.YtgdogjnjbinoiaaW.PrintMore Go.Proofs.Ytgdogjnjbinoiaa.H
set_option linter.unusedVariables false
set_option linter.unusedSimpArgs false
theorem write_nil (A : Option Addr) (n c : Nat) (w : World) : Calls Try.prog 23 #[.pointer none, .slice A n c] w fun e w' => e = .returned (.int .i64 0) ∧ w' = w := by
  go_enter Try.func23, Try.ntmps23
  go_wp2
  go_ret
  exact ⟨rfl, rfl⟩
theorem len_nil (w : World) : Calls Try.prog 25 #[.pointer none] w fun e w' => e = .returned (.int .i64 0) ∧ w' = w := by
  go_enter Try.func25, Try.ntmps25
  go_wp2
  go_ret
  exact ⟨rfl, rfl⟩
theorem len_any (g : Nat) (m : List Int) (w : World) (hH : HashRep w g m) : Calls Try.prog 25 #[.pointer (some ⟨g, 0, none⟩)] w fun e w' => e = .returned (.int .i64 m.length) ∧ w' = w := by
  obtain ⟨bg, s, p, BK, hs, hp, hb⟩ := hH.out
  have C73 : w.cell? ⟨g, 73, none⟩ = some (.int .i64 m.length) := (BK.cell 73).trans (hash73 _ _ _ _ hs hp)
  clear BK hb hH
  go_enter Try.func25, Try.ntmps25
  go_wp2
  go_ret
  exact ⟨rfl, rfl⟩
theorem hashsum_nil (w : World) : Calls Try.prog 24 #[.pointer none] w fun e w' => ∃ v, e = .returned v ∧ Own w' w.heap.size 5 .u8 v (shaW []) ∧ Below w.heap.size w w' := by
  go_enter Try.func24, Try.ntmps24
  go_wp2_with fail
  refine (sum_any none 0 [] _ (Kd.C_of_reads (enc := Value.int .u8) (d := (0 : Int)) (h1 := fun _ => rfl) ⟨rfl, by decide, fun h => by cases h⟩) (by decide) (by decide)).mono ?_
  rintro e w1 ⟨v, rfl, O1, L1⟩
  replace O1 := Aside0.mk O1
  replace L1 := Aside0.mk L1
  go_wp2
  go_ret
  exact ⟨_, rfl, O1.out, L1.out⟩
end Go.Proofs.Ytgdogjnjbinoiaa.Q
