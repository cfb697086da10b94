/- TopLimits walked: it answers true. -/
import Derived.Test.YtkennblgbfhjiaaGreatDoorTlim
namespace Go.Proofs.YtkennblgbfhjiaaGreatDoor.Q
open Go.RowKit Go.Proofs.YtkennblgbfhjiaaGreatDoorW.PrintWords Go.Proofs.YtkennblgbfhjiaaGreatDoorW.PrintLast Go.Proofs.YtkennblgbfhjiaaGreatDoorW.PrintMore Go.Proofs.YtkennblgbfhjiaaGreatDoor.F Go.Proofs.YtkennblgbfhjiaaGreatDoor.H
set_option linter.unusedVariables false
set_option linter.unusedSimpArgs false
theorem held_below {w3 w1 w2 : World} {sb : Nat} {a b : Value} (hs : sb < w3.heap.size) (h : w1.cell? ⟨sb, 0, none⟩ = some a ∧ w1.cell? ⟨sb, 1, none⟩ = some b ∧ Below w3.heap.size w3 w1) (hb : Below w1.heap.size w1 w2) : w2.cell? ⟨sb, 0, none⟩ = some a ∧ w2.cell? ⟨sb, 1, none⟩ = some b ∧ Below w3.heap.size w3 w2 := by
  obtain ⟨h1, h2, h3⟩ := h
  have hz : sb < w1.heap.size := Nat.lt_of_lt_of_le hs h3.size
  exact ⟨(hb.cell (p := ⟨sb, 0, none⟩) hz).trans h1, (hb.cell (p := ⟨sb, 1, none⟩) hz).trans h2, below_then h3 h3.size hb⟩
theorem held_set {w3 w1 : World} {sb g : Nat} {a b x y : Value} (hs : sb < w3.heap.size) (h : w1.cell? ⟨sb, 0, none⟩ = some a ∧ w1.cell? ⟨sb, 1, none⟩ = some b ∧ Below w3.heap.size w3 w1) (hg : w3.heap.size ≤ g) : ((w1.setCell ⟨g, 0, none⟩ x).setCell ⟨g, 1, none⟩ y).cell? ⟨sb, 0, none⟩ = some a ∧ ((w1.setCell ⟨g, 0, none⟩ x).setCell ⟨g, 1, none⟩ y).cell? ⟨sb, 1, none⟩ = some b ∧ Below w3.heap.size w3 ((w1.setCell ⟨g, 0, none⟩ x).setCell ⟨g, 1, none⟩ y) := by
  obtain ⟨h1, h2, h3⟩ := h
  have hne : g ≠ sb := by omega
  refine ⟨?_, ?_, below_set (below_set h3 hg 0 x) hg 1 y⟩
  · rw [World.cell?_setCell_far _ _ _ _ hne, World.cell?_setCell_far _ _ _ _ hne]
    exact h1
  · rw [World.cell?_setCell_far _ _ _ _ hne, World.cell?_setCell_far _ _ _ _ hne]
    exact h2
set_option maxHeartbeats 4000000 in
set_option maxRecDepth 100000 in
theorem awake_any (w : World) : Calls Tryz.prog 5 #[] w fun e w' => e = .returned (.bool true) ∧ Below w.heap.size w w' := by
  go_enter Tryz.func5, Tryz.ntmps5
  go_wp2_with fail
  refine (key_any 1 _).mono ?_
  rintro e w1 ⟨A, c, rfl, s1, l1⟩
  have S1 := Aside0.mk s1
  have L1 := Aside0.mk l1
  clear s1 l1
  go_wp2_with fail
  refine (build_none A c (keyB 1) _ S1.out).mono ?_
  rintro e w2 ⟨v, vr, rfl, sv, sr, l1⟩
  have L2 := Aside0.mk (below_then L1.out L1.out.size l1)
  have V2 := Aside0.mk sv
  have R2 := Aside0.mk sr
  have hV : (110 :: signB (keyB 1) zeros32 (shaW [])).length = 111 := by rw [List.length_cons, signB_length _ _ _ rfl shaW_32]
  obtain ⟨Av, cv, rfl⟩ := sv.is
  obtain ⟨Ar, cr, rfl⟩ := sr.is
  rw [shaW_32] at R2 ⊢
  rw [hV] at V2 ⊢
  clear sv sr l1 L1 S1 hV
  go_wp2_with fail
  have l2 : Below w2.heap.size w2 (w2.alloc (.cells #[.int .u64 1, .slice Ar 32 cr] 43)) := below_alloc (Below.refl _ _) _
  have M3 := Bk.at0 w2 43 [.int .u64 1, .slice Ar 32 cr] _ rfl
  have V3 := V2.out.below l2
  have R3 := R2.out.below l2
  have L3 := below_then L2.out L2.out.size l2
  obtain ⟨sb, hsb⟩ : ∃ sb, sb = w2.heap.size := ⟨_, rfl⟩
  rw [← hsb] at M3 ⊢
  generalize w2.alloc (.cells #[.int .u64 1, .slice Ar 32 cr] 43) = w3 at M3 V3 R3 L3 ⊢
  clear l2 V2 R2 L2 hsb
  have hlt := M3.lt
  have hc0 : w3.cell? ⟨sb, 0, none⟩ = some (.int .u64 1) := M3.cell 0
  have hc1 : w3.cell? ⟨sb, 1, none⟩ = some (.slice Ar 32 cr) := M3.cell 1
  have hbb := Below.refl w3.heap.size w3
  replace V3 := Aside0.mk V3
  replace R3 := Aside0.mk R3
  replace L3 := Aside0.mk L3
  clear M3
  go_region_held3 (fun w' => w'.cell? ⟨sb, 0, none⟩ = some (.int .u64 1) ∧ w'.cell? ⟨sb, 1, none⟩ = some (.slice Ar 32 cr) ∧ Below w3.heap.size w3 w')
    (first | assumption | exact held_below hlt (by assumption) (below_alloc (Below.refl _ _) _) | exact held_below hlt ⟨by assumption, by assumption, by assumption⟩ (below_drew (Below.refl _ _)) | exact held_below hlt (by assumption) (by assumption) | exact held_set hlt (by assumption) (by first | exact Nat.le_refl _ | assumption | (simp; omega)))
    (first
      | (go_at_call 7; refine (key_any 1 _).mono ?_; rintro e w5 ⟨A5, c5, rfl, s5, l5⟩; have S5 := Aside0.mk s5; clear s5; have hz5 : w3.heap.size ≤ w5.heap.size := (by have hz := l5.size; have hz' : ∀ W : World, W.drew.heap.size = W.heap.size := fun _ => rfl; (try simp only [hz', World.size_alloc] at hz); omega); (first | have tb := (Bk.at0 w3.drew 43 [.int .u64 0, .slice none 0 0] _ rfl).below l5 | have tb := ((Bk.at0 w3 43 [.int .u64 0, .slice none 0 0] _ rfl).drew).below l5 | skip))
      | (go_at_call 14; refine (open_none A5 Ar Av c5 cr 111 cv (keyB 1) _ ?oa ?ob ?oc).mono ?_; (case oa => first | exact S5.out | exact S5.out.below (below_alloc (Below.refl _ _) _)); (case ob => exact R3.out.below (And.right (And.right (by assumption)))); (case oc => exact V3.out.below (And.right (And.right (by assumption)))); rintro e w6 ⟨Aq, cq, rfl, l6⟩; have hk6 := held_below hlt (by assumption) l6; (first | have tc := tb.below l6 | have tc := (Bk.at0 w5 43 [.int .u64 0, .slice none 0 0] _ rfl).below l6 | skip); (first | (have tc0 : w6.cell? ⟨w3.heap.size, 0, none⟩ = some (.int .u64 0) := tc.cell 0; have tc1 : w6.cell? ⟨w3.heap.size, 1, none⟩ = some (.slice none 0 0) := tc.cell 1; have tf0 : w6.frozen? ⟨w3.heap.size, 0, none⟩ = false := tc.frozen 0; have tf1 : w6.frozen? ⟨w3.heap.size, 1, none⟩ = false := tc.frozen 1) | (have tc0 : w6.cell? ⟨w5.heap.size, 0, none⟩ = some (.int .u64 0) := tc.cell 0; have tc1 : w6.cell? ⟨w5.heap.size, 1, none⟩ = some (.slice none 0 0) := tc.cell 1; have tf0 : w6.frozen? ⟨w5.heap.size, 0, none⟩ = false := tc.frozen 0; have tf1 : w6.frozen? ⟨w5.heap.size, 1, none⟩ = false := tc.frozen 1) | skip)))
  all_goals
    go_wp2
    go_ret
    exact ⟨rfl, below_then L3.out L3.out.size (And.right (And.right (by assumption)))⟩
end Go.Proofs.YtkennblgbfhjiaaGreatDoor.Q
