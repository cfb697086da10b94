import Derived.Test.YtgdogjnjbinoiaaDoorB6
namespace Go.Proofs.YtgdogjnjbinoiaaDoor.Q
open Go.RowKit Go.Proofs.YtgdogjnjbinoiaaDoorW.PrintWords Go.Proofs.YtgdogjnjbinoiaaDoorW.PrintLast Go.Proofs.YtgdogjnjbinoiaaDoorW.PrintMore Go.Proofs.YtgdogjnjbinoiaaDoor.H
set_option linter.unusedVariables false
set_option linter.unusedSimpArgs false
theorem HashRep.at0 (w : World) (cs : Array Value) (h : cs = (hashCells false (List.replicate 8 0) (List.replicate 64 0) 0).toArray) : HashRep (w.alloc (.cells cs 67)) w.heap.size [] :=
  ⟨false, _, _, Bk.at0 w 67 _ cs h, rfl, rfl, (fun h => by cases h), fun _ => rfl⟩
theorem HashRep.alloc {w : World} {g : Nat} {m : List Int} (h : HashRep w g m) (o : Obj) : HashRep (w.alloc o) g m := by
  obtain ⟨b, s, p, h1, h2⟩ := h.out
  exact ⟨b, s, p, h1.alloc o, h2⟩
theorem HashRep.grown {w w' : World} {g : Nat} {m : List Int} (h : HashRep w g m) {row : Option Nat} (hg : w.grownBy w' row) (hne : some g ≠ row) : HashRep w' g m := by
  obtain ⟨b, s, p, h1, h2⟩ := h.out
  exact ⟨b, s, p, h1.grown hg hne, h2⟩
theorem HashRep.below {w w' : World} {g : Nat} {m : List Int} (h : HashRep w g m) (hb : Below w.heap.size w w') : HashRep w' g m := h.grown (row := none) (grown_of_below0 hb none) (by simp)
set_option maxHeartbeats 1000000 in
set_option maxRecDepth 100000 in
theorem sum_any (A : Option Addr) (c : Nat) (b : List Int) (w : World) (hr : Kd.C (Kd.int .u8) w A b.length b) (hc : b.length ≤ c) (hm : b.length ≤ 549755813888) :
    Calls Tryd.prog 37 #[.slice A b.length c] w fun e w' => ∃ v, e = .returned v ∧ Own w' w.heap.size 5 .u8 v (shaW b) ∧ Below w.heap.size w w' := by
  have hA := Aside0.mk (C_old hr)
  have HR := Aside0.mk hr
  clear hr
  go_enter Tryd.func37, Tryd.ntmps37
  go_wp2_with fail
  refine (write_any w.heap.size A c [] b _ (HashRep.at0 w _ (by rfl)) (Kd.C_below HR.out ((Below.refl _ _).alloc (Nat.le_refl _) _)) hc ?_ (by simp; omega)).mono ?_
  · rcases hA.out with h | h
    · exact .inl h
    · right
      intro ad e h2
      have := h ad e
      have h2 := Option.some.inj h2
      omega
  rintro e w1 ⟨rfl, H1, G1⟩
  have L1 := Aside0.mk (((Below.refl w.heap.size w).alloc (Nat.le_refl _) _).grown G1 (by simp) (fun k hk => by injection hk with hk; omega))
  replace H1 := Aside0.mk H1.rep
  clear G1
  go_wp2_with fail
  refine (hashsum_any w.heap.size ([] ++ b) w1 H1.out (by simpa using hm)).mono ?_
  rintro e w2 ⟨v, rfl, O2, L2⟩
  have L3 := Aside0.mk (below_then L1.out L1.out.size L2)
  replace O2 := Aside0.mk (O2.lower L1.out.size)
  clear L2 H1
  go_wp2
  go_ret
  exact ⟨_, rfl, O2.out, L3.out⟩
end Go.Proofs.YtgdogjnjbinoiaaDoor.Q
