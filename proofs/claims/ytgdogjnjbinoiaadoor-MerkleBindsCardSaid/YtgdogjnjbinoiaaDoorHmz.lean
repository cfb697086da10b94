/- What a proof of a range and leaves come to: the program's walk and the document's. No program in sight. -/
import Derived.Test.YtgdogjnjbinoiaaDoorHmr
import Derived.Test.YtgdogjnjbinoiaaDoorHreb2
import Derived.Test.YtgdogjnjbinoiaaDoorDmrebX
namespace Go.Proofs.YtgdogjnjbinoiaaDoor.Q
open Go.RowKit Go.Proofs.YtgdogjnjbinoiaaDoorW.PrintWords Go.Proofs.YtgdogjnjbinoiaaDoorW.PrintLast Go.Proofs.YtgdogjnjbinoiaaDoorW.PrintMore Go.Proofs.YtgdogjnjbinoiaaDoor.F
set_option linter.unusedVariables false
set_option linter.unusedSimpArgs false
/-- How many tops a proof tells of a part. -/
def manyW : Nat → Nat → Nat → Int → Int → Nat
  | 0, _, _, _, _ => 0
  | f + 1, lo, hi, i, j =>
    if decide (i ≤ lo) && decide ((hi : Int) - 1 ≤ j) then 0
    else if decide (j < lo) || decide ((hi : Int) - 1 < i) then 1
    else manyW f lo (lo + halfW (hi - lo)) i j + manyW f (lo + halfW (hi - lo)) hi i j
theorem walkW_many : ∀ (f : Nat) (l : List (List Int)) (lo hi : Nat) (i j : Int), (walkW f l lo hi i j).length = manyW f lo hi i j
  | 0, _, _, _, _, _ => rfl
  | f + 1, l, lo, hi, i, j => by
    rw [walkW, manyW]
    split
    · rfl
    · split
      · rfl
      · rw [List.length_append, walkW_many f, walkW_many f]
theorem manyW_le (f lo hi : Nat) (i j : Int) (h : lo < hi) : manyW f lo hi i j ≤ hi - lo := by
  rw [← walkW_many f [] lo hi i j]
  exact walkW_length f [] lo hi i j h
/-- The three cases of a part. -/
theorem part_cases (lo hi : Nat) (i j : Int) (h : lo < hi) (hij : i ≤ j) :
    ((i ≤ (lo : Int) ∧ (hi : Int) - 1 ≤ j) ∧ ¬ (j < (lo : Int) ∨ (hi : Int) - 1 < i)) ∨ (¬ (i ≤ (lo : Int) ∧ (hi : Int) - 1 ≤ j) ∧ (j < (lo : Int) ∨ (hi : Int) - 1 < i)) ∨ (¬ (i ≤ (lo : Int) ∧ (hi : Int) - 1 ≤ j) ∧ ¬ (j < (lo : Int) ∨ (hi : Int) - 1 < i) ∧ 2 ≤ hi - lo) := by omega
theorem dec_and {p q : Prop} [Decidable p] [Decidable q] : (decide p && decide q) = true ↔ p ∧ q := by rw [Bool.and_eq_true, decide_eq_true_eq, decide_eq_true_eq]
theorem dec_or {p q : Prop} [Decidable p] [Decidable q] : (decide p || decide q) = true ↔ p ∨ q := by rw [Bool.or_eq_true, decide_eq_true_eq, decide_eq_true_eq]
theorem topW_short : ∀ (f : Nat) (l : List (List Int)) (i j : Int) (lo hi : Nat) (p : List (List Int)), (topW f l i j lo hi p true).2.2 = true
  | 0, _, _, _, _, _, _ => rfl
  | f + 1, l, i, j, lo, hi, p => by
    have h1 := topW_short f l i j lo (lo + halfW (hi - lo)) p
    have h2 := topW_short f l i j (lo + halfW (hi - lo)) hi (topW f l i j lo (lo + halfW (hi - lo)) p true).2.1
    rw [topW]
    split
    · split <;> rfl
    · split
      · rfl
      · dsimp only
        rw [h1, h2]
        rfl
theorem topW_rest (l : List (List Int)) (i j : Int) (hij : i ≤ j) : ∀ (f lo hi : Nat) (p : List (List Int)), hi - lo ≤ f → lo < hi →
    (manyW f lo hi i j ≤ p.length → (topW f l i j lo hi p false).2 = (p.drop (manyW f lo hi i j), false)) ∧ (p.length < manyW f lo hi i j → (topW f l i j lo hi p false).2.2 = true)
  | 0, lo, hi, p, h1, h2 => by omega
  | f + 1, lo, hi, p, h1, h2 => by
    rw [topW, manyW]
    rcases part_cases lo hi i j h2 hij with ⟨c1, c2⟩ | ⟨c1, c2⟩ | ⟨c1, c2, c3⟩
    · have d1 := dec_and.mpr c1
      have d2 : ¬ (decide (j < (lo : Int)) || decide ((hi : Int) - 1 < i)) = true := fun h => c2 (dec_or.mp h)
      simp only [if_neg d2, if_pos d1]
      exact ⟨fun _ => rfl, fun h => by omega⟩
    · have d1 : ¬ (decide (i ≤ (lo : Int)) && decide ((hi : Int) - 1 ≤ j)) = true := fun h => c1 (dec_and.mp h)
      have d2 := dec_or.mpr c2
      simp only [if_pos d2, if_neg d1]
      refine ⟨fun h => ?_, fun h => ?_⟩
      · rw [if_neg (by omega)]
      · rw [if_pos (by omega)]
    · have d1 : ¬ (decide (i ≤ (lo : Int)) && decide ((hi : Int) - 1 ≤ j)) = true := fun h => c1 (dec_and.mp h)
      have d2 : ¬ (decide (j < (lo : Int)) || decide ((hi : Int) - 1 < i)) = true := fun h => c2 (dec_or.mp h)
      simp only [if_neg d2, if_neg d1]
      have k1 := halfW_lt (hi - lo) c3
      have k2 := halfW_pos (hi - lo)
      obtain ⟨a1, a2⟩ := topW_rest l i j hij f lo (lo + halfW (hi - lo)) p (by omega) (by omega)
      by_cases hm : manyW f lo (lo + halfW (hi - lo)) i j ≤ p.length
      · rw [a1 hm]
        dsimp only
        obtain ⟨b1, b2⟩ := topW_rest l i j hij f (lo + halfW (hi - lo)) hi (p.drop (manyW f lo (lo + halfW (hi - lo)) i j)) (by omega) (by omega)
        rw [List.length_drop] at b1 b2
        refine ⟨fun h => ?_, fun h => ?_⟩
        · rw [b1 (by omega), List.drop_drop]
          rfl
        · rw [b2 (by omega)]
          rfl
      · rw [a2 (by omega)]
        have := topW_short f l i j (lo + halfW (hi - lo)) hi (topW f l i j lo (lo + halfW (hi - lo)) p false).2.1
        rw [this]
        exact ⟨fun h => by omega, fun _ => rfl⟩
/-- What the walk takes to a part with enough proof. -/
theorem topW_node (l : List (List Int)) (i j : Int) (hij : i ≤ j) (f lo hi : Nat) (p : List (List Int)) (h1 : hi - lo ≤ f + 1) (h2 : lo < hi) (c1 : ¬ (i ≤ (lo : Int) ∧ (hi : Int) - 1 ≤ j)) (c2 : ¬ (j < (lo : Int) ∨ (hi : Int) - 1 < i)) (hm : manyW (f + 1) lo hi i j ≤ p.length) :
    topW (f + 1) l i j lo hi p false = (nodeW (topW f l i j lo (lo + halfW (hi - lo)) p false).1 (topW f l i j (lo + halfW (hi - lo)) hi (p.drop (manyW f lo (lo + halfW (hi - lo)) i j)) false).1, p.drop (manyW (f + 1) lo hi i j), false) ∧
    manyW (f + 1) lo hi i j = manyW f lo (lo + halfW (hi - lo)) i j + manyW f (lo + halfW (hi - lo)) hi i j := by
  have hm2 : manyW (f + 1) lo hi i j = manyW f lo (lo + halfW (hi - lo)) i j + manyW f (lo + halfW (hi - lo)) hi i j := by rw [manyW, if_neg (fun h => c1 (dec_and.mp h)), if_neg (fun h => c2 (dec_or.mp h))]
  refine ⟨?_, hm2⟩
  have k1 := halfW_lt (hi - lo) (by omega)
  have k2 := halfW_pos (hi - lo)
  rw [hm2] at hm ⊢
  have a1 := (topW_rest l i j hij f lo (lo + halfW (hi - lo)) p (by omega) (by omega)).1 (by omega)
  have b1 := (topW_rest l i j hij f (lo + halfW (hi - lo)) hi (p.drop (manyW f lo (lo + halfW (hi - lo)) i j)) (by omega) (by omega)).1 (by rw [List.length_drop]; omega)
  rw [topW, if_neg (fun h => c2 (dec_or.mp h)), if_neg (fun h => c1 (dec_and.mp h))]
  dsimp only
  rw [a1]
  dsimp only
  rw [b1, List.drop_drop]
  rfl
theorem topW_bytes : ∀ (f : Nat) (l : List (List Int)) (i j : Int) (lo hi : Nat) (p : List (List Int)) (s : Bool), AllBytes l → l.length ≤ 1000 → AllBytes p → Bytes (topW f l i j lo hi p s).1 ∧ AllBytes (topW f l i j lo hi p s).2.1
  | 0, l, i, j, lo, hi, p, s, hs, hl, hp => ⟨fun x hx => (List.not_mem_nil hx).elim, hp⟩
  | f + 1, l, i, j, lo, hi, p, s, hs, hl, hp => by
    rw [topW]
    split
    · split
      · exact ⟨fun x hx => (List.not_mem_nil hx).elim, hp⟩
      · exact ⟨bytes_rdL hp 0, hp.drop 1⟩
    · split
      · refine ⟨rootW_bytes ((hs.take _).drop _) ?_, hp⟩
        rw [List.length_drop, List.length_take]
        omega
      · obtain ⟨a1, a2⟩ := topW_bytes f l i j lo (lo + halfW (hi - lo)) p s hs hl hp
        obtain ⟨b1, b2⟩ := topW_bytes f l i j (lo + halfW (hi - lo)) hi _ (topW f l i j lo (lo + halfW (hi - lo)) p s).2.2 hs hl a2
        dsimp only
        split
        · exact ⟨fun x hx => (List.not_mem_nil hx).elim, b2⟩
        · exact ⟨nodeW_bytes _ _, b2⟩
/-! ### how many -/
theorem many_ev (i j : Int) (hi0 : -2000000 ≤ i) (hi1 : i ≤ 2000000) : ∀ (f lo hi : Nat), hi - lo ≤ f → lo < hi → hi ≤ 1048576 → i ≤ j → Ev (fun k => casketref20_Many.f k (lo : Int) (hi : Int) i j) ((manyW f lo hi i j : Nat) : Int)
  | 0, lo, hi, h1, h2, _, _ => by omega
  | f + 1, lo, hi, h1, h2, h3, hij => by
    have hw := Aside0.mk (show wrap64 ((hi : Int) - 1) = (hi : Int) - 1 from w64 (by omega) (by omega))
    have hw2 := Aside0.mk (show wrap64 ((hi : Int) - (lo : Int)) = ((hi - lo : Nat) : Int) by rw [w64 (by omega) (by omega)]; omega)
    rw [manyW]
    rcases part_cases lo hi i j h2 hij with ⟨c1, c2⟩ | ⟨c1, c2⟩ | ⟨c1, c2, c3⟩
    · rw [if_pos (dec_and.mpr c1)]
      refine Ev.step (f := fun k => casketref20_Many.j0 k (lo : Int) (hi : Int) i j true) (fun k => ?_) ?_
      · simp only [casketref20_Many.f]
        rw [if_pos c1.1, hw.out, decide_eq_true c1.2]
      · refine Ev.step (f := fun k => some 0) (fun k => ?_) (Ev.now _)
        simp only [casketref20_Many.j0, if_true]
    · rw [if_neg (fun h => c1 (dec_and.mp h)), if_pos (dec_or.mpr c2)]
      refine Ev.step (f := fun k => casketref20_Many.j0 k (lo : Int) (hi : Int) i j false) (fun k => ?_) ?_
      · simp only [casketref20_Many.f]
        by_cases c3 : i ≤ (lo : Int)
        · rw [if_pos c3, hw.out, decide_eq_false (by omega)]
        · rw [if_neg c3]
      · refine Ev.step (f := fun k => casketref20_Many.j1 k (lo : Int) (hi : Int) i j true) (fun k => ?_) ?_
        · simp only [casketref20_Many.j0]
          rw [if_neg (by decide)]
          by_cases c3 : j < (lo : Int)
          · rw [if_pos c3]
          · rw [if_neg c3, hw.out, decide_eq_true (by omega)]
        · refine Ev.step (f := fun k => some 1) (fun k => ?_) (Ev.now _)
          simp only [casketref20_Many.j1, if_true]
    · rw [if_neg (fun h => c1 (dec_and.mp h)), if_neg (fun h => c2 (dec_or.mp h))]
      have k1 := halfW_lt (hi - lo) c3
      have k2 := halfW_pos (hi - lo)
      have m1 := manyW_le f lo (lo + halfW (hi - lo)) i j (by omega)
      have m2 := manyW_le f (lo + halfW (hi - lo)) hi i j (by omega)
      obtain ⟨h, hh⟩ : ∃ h, h = halfW (hi - lo) := ⟨_, rfl⟩
      have he := half_ev (hi - lo) (by omega) (by omega)
      rw [← hh] at k1 k2 m1 m2 he ⊢
      have hw3 := Aside0.mk (show wrap64 ((lo : Int) + (h : Int)) = ((lo + h : Nat) : Int) by rw [w64 (by omega) (by omega)]; omega)
      refine Ev.step (f := fun k => casketref20_Many.j0 k (lo : Int) (hi : Int) i j false) (fun k => ?_) ?_
      · simp only [casketref20_Many.f]
        by_cases c4 : i ≤ (lo : Int)
        · rw [if_pos c4, hw.out, decide_eq_false (by omega)]
        · rw [if_neg c4]
      · refine Ev.step (f := fun k => casketref20_Many.j1 k (lo : Int) (hi : Int) i j false) (fun k => ?_) ?_
        · simp only [casketref20_Many.j0]
          rw [if_neg (by decide), if_neg (by omega), hw.out, decide_eq_false (by omega)]
        · refine Ev.step (f := fun k => (casketref20_Half.f k ((hi - lo : Nat) : Int)).bind fun t420 => ((casketref20_Many.f k lo (wrap64 (lo + t420)) i j).bind fun t421 => ((casketref20_Many.f k (wrap64 (lo + t420)) hi i j).bind fun t422 => (some (wrap64 (t421 + t422)))))) (fun k => ?_) ?_
          · simp only [casketref20_Many.j1]
            rw [if_neg (by decide), hw2.out]
          · refine Ev.bind he ?_
            rw [hw3.out]
            refine Ev.bind (many_ev i j hi0 hi1 f lo (lo + h) (by omega) (by omega) (by omega) hij) ?_
            refine Ev.bind (many_ev i j hi0 hi1 f (lo + h) hi (by omega) (by omega) (by omega) hij) ?_
            rw [w64 (by omega) (by omega)]
            exact Ev.now _
/-! ### slices of slices -/
theorem slice_take (l : List (List Int)) (a b m : Nat) (h1 : a ≤ m) (h2 : m ≤ b) (h3 : b ≤ l.length) : ((l.take b).drop a).take (m - a) = (l.take m).drop a := by
  apply List.ext_getElem?
  intro n
  simp only [List.getElem?_take, List.getElem?_drop]
  by_cases c : n < m - a
  · rw [if_pos c, if_pos (by omega), if_pos (by omega)]
  · rw [if_neg c, if_neg (by omega)]
theorem slice_drop (l : List (List Int)) (a b m : Nat) (h1 : a ≤ m) : ((l.take b).drop a).drop (m - a) = (l.take b).drop m := by
  rw [List.drop_drop]
  congr 1
  omega
theorem slice_length (l : List (List Int)) (a b : Nat) (h : b ≤ l.length) : ((l.take b).drop a).length = b - a := by rw [List.length_drop, List.length_take]; omega
theorem slice_root (l : List (List Int)) (hl : l.length ≤ 1000) (a b : Nat) (h1 : a + 2 ≤ b) (h2 : b ≤ l.length) : rootW ((l.take b).drop a) = nodeW (rootW ((l.take (a + halfW (b - a))).drop a)) (rootW ((l.take b).drop (a + halfW (b - a)))) := by
  have k1 := halfW_lt (b - a) (by omega)
  have hn := slice_length l a b h2
  rw [rootW_half _ (by omega) (by omega), hn]
  congr 2
  · have := slice_take l a b (a + halfW (b - a)) (by omega) (by omega) h2
    rw [show a + halfW (b - a) - a = halfW (b - a) by omega] at this
    exact this
  · have := slice_drop l a b (a + halfW (b - a)) (by omega)
    rw [show a + halfW (b - a) - a = halfW (b - a) by omega] at this
    exact this
theorem slice_single (l : List (List Int)) (a : Nat) (h : a < l.length) : rootW ((l.take (a + 1)).drop a) = rd_L1 l (a : Nat) := by
  rw [rootW_one _ (by rw [slice_length _ _ _ (by omega)]; omega)]
  simp [rd_L1, List.getD_eq_getElem?_getD, List.getElem?_drop, List.getElem?_take, h]
end Go.Proofs.YtgdogjnjbinoiaaDoor.Q
