/- The document's root of leaves and a proof, and both checks of it: the same as the program's. No program in sight. -/
import Derived.Test.YtgdogjnjbinoiaaDoorHmz
import Derived.Test.YtgdogjnjbinoiaaDoorHhs
namespace Go.Proofs.YtgdogjnjbinoiaaDoor.Q
open Go.RowKit Go.Proofs.YtgdogjnjbinoiaaDoorW.PrintWords Go.Proofs.YtgdogjnjbinoiaaDoorW.PrintLast Go.Proofs.YtgdogjnjbinoiaaDoorW.PrintMore Go.Proofs.YtgdogjnjbinoiaaDoor.F
set_option linter.unusedVariables false
set_option linter.unusedSimpArgs false
theorem made_within_ev (l p : List (List Int)) (I : Nat) (hl : l.length ≤ 1000) (h1 : 1 ≤ l.length) (hs : Small l) (hy : AllBytes l) (hI : I ≤ 1048576) : ∀ (m lo hi : Nat), hi - lo = m → lo < hi → I ≤ lo → hi ≤ I + l.length →
    Ev (fun k => casketref20_made.f k (lo : Int) (hi : Int) (I : Int) l p) (rootW ((l.take (hi - I)).drop (lo - I)), p) := by
  intro m
  induction m using Nat.strongRecOn with
  | _ m ih =>
    intro lo hi hm h2 h3 h4
    have hw := Aside0.mk (show wrap64 ((hi : Int) - 1) = (hi : Int) - 1 from w64 (by omega) (by omega))
    have hw2 := Aside0.mk (show wrap64 ((hi : Int) - (lo : Int)) = ((hi - lo : Nat) : Int) by rw [w64 (by omega) (by omega)]; omega)
    have hw4 := Aside0.mk (show wrap64 ((I : Int) + (l.length : Int)) = (I : Int) + (l.length : Int) from w64 (by omega) (by omega))
    have hw5 := Aside0.mk (show wrap64 ((I : Int) + (l.length : Int) - 1) = (I : Int) + (l.length : Int) - 1 from w64 (by omega) (by omega))
    have hw6 := Aside0.mk (show wrap64 ((lo : Int) - (I : Int)) = ((lo - I : Nat) : Int) by rw [w64 (by omega) (by omega)]; omega)
    refine Ev.step (f := fun k => casketref20_made.j0 k (lo : Int) (hi : Int) (I : Int) l p false) (fun k => ?_) ?_
    · simp only [casketref20_made.f]
      rw [hw4.out, hw5.out, if_neg (by omega), hw.out, decide_eq_false (by omega)]
    · by_cases c : hi - lo = 1
      · refine Ev.step (f := fun k => some (rd_L1 l ((lo - I : Nat) : Int), p)) (fun k => ?_) ?_
        · simp only [casketref20_made.j0]
          rw [if_neg (by decide), hw2.out, if_pos (by omega), hw6.out, if_pos (by omega), if_pos (by omega)]
        · rw [show hi - I = (lo - I) + 1 by omega, slice_single l (lo - I) (by omega)]
          exact Ev.now _
      · have k1 := halfW_lt (hi - lo) (by omega)
        have k2 := halfW_pos (hi - lo)
        have hr := slice_root l hl (lo - I) (hi - I) (by omega) (by omega)
        rw [show hi - I - (lo - I) = hi - lo by omega] at hr
        obtain ⟨h, hh⟩ : ∃ h, h = halfW (hi - lo) := ⟨_, rfl⟩
        have he := half_ev (hi - lo) (by omega) (by omega)
        rw [← hh] at k1 k2 he hr
        have hw3 := Aside0.mk (show wrap64 ((lo : Int) + (h : Int)) = ((lo + h : Nat) : Int) by rw [w64 (by omega) (by omega)]; omega)
        have e1 := ih h (by omega) lo (lo + h) (by omega) (by omega) (by omega) (by omega)
        have e2 := ih (hi - lo - h) (by omega) (lo + h) hi (by omega) (by omega) (by omega) (by omega)
        rw [show lo + h - I = lo - I + h by omega] at e1 e2
        rw [hr]
        refine Ev.step (f := fun k => (casketref20_Half.f k ((hi - lo : Nat) : Int)).bind fun t537 => ((casketref20_made.f k lo (wrap64 (lo + t537)) I l p).bind fun bt538 => ((casketref20_made.f k (wrap64 (lo + t537)) hi I l bt538.2).bind fun bt544 => ((casketref20_Node.f k bt538.1 bt544.1).bind fun t550 => (some (t550, bt544.2)))))) (fun k => ?_) ?_
        · simp only [casketref20_made.j0]
          rw [if_neg (by decide), hw2.out, if_neg (by omega)]
        · refine Ev.bind he ?_
          rw [hw3.out]
          refine Ev.bind e1 ?_
          refine Ev.bind e2 ?_
          have s1 : ((l.take (lo - I + h)).drop (lo - I)).length ≤ 1000 := by rw [List.length_drop, List.length_take]; omega
          have s2 : ((l.take (hi - I)).drop (lo - I + h)).length ≤ 1000 := by rw [List.length_drop, List.length_take]; omega
          refine Ev.bind (refnode_ev _ _ (rootW_small ((hs.take _).drop _) s1) (rootW_small ((hs.take _).drop _) s2) (rootW_bytes ((hy.take _).drop _) s1) (rootW_bytes ((hy.take _).drop _) s2)) ?_
          exact Ev.now _
theorem refmade_ev (l : List (List Int)) (I : Nat) (hl : l.length ≤ 1000) (h1 : 1 ≤ l.length) (hs : Small l) (hy : AllBytes l) (hI : I ≤ 1048576) : ∀ (f lo hi : Nat) (p : List (List Int)), hi - lo ≤ f → lo < hi → hi ≤ 1048576 → Small p → AllBytes p → manyW f lo hi I ((I : Int) + l.length - 1) ≤ p.length →
    Ev (fun k => casketref20_made.f k (lo : Int) (hi : Int) (I : Int) l p) ((topW f l I ((I : Int) + l.length - 1) lo hi p false).1, p.drop (manyW f lo hi I ((I : Int) + l.length - 1)))
  | 0, lo, hi, p, h2, h3, _, _, _, _ => by omega
  | f + 1, lo, hi, p, h2, h3, h4, hp, hz, hm => by
    have hw := Aside0.mk (show wrap64 ((hi : Int) - 1) = (hi : Int) - 1 from w64 (by omega) (by omega))
    have hw2 := Aside0.mk (show wrap64 ((hi : Int) - (lo : Int)) = ((hi - lo : Nat) : Int) by rw [w64 (by omega) (by omega)]; omega)
    have hw4 := Aside0.mk (show wrap64 ((I : Int) + (l.length : Int)) = (I : Int) + (l.length : Int) from w64 (by omega) (by omega))
    have hw5 := Aside0.mk (show wrap64 ((I : Int) + (l.length : Int) - 1) = (I : Int) + (l.length : Int) - 1 from w64 (by omega) (by omega))
    rcases part_cases lo hi I ((I : Int) + l.length - 1) h3 (by omega) with ⟨c1, c2⟩ | ⟨c1, c2⟩ | ⟨c1, c2, c3⟩
    · rw [manyW, if_pos (dec_and.mpr c1), topW, if_neg (fun h => c2 (dec_or.mp h)), if_pos (dec_and.mpr c1), List.drop_zero, show ((hi : Int) - (I : Int)).toNat = hi - I by omega, show ((lo : Int) - (I : Int)).toNat = lo - I by omega]
      exact made_within_ev l p I hl h1 hs hy hI (hi - lo) lo hi rfl h3 (by omega) (by omega)
    · have hmm : manyW (f + 1) lo hi I ((I : Int) + l.length - 1) = 1 := by rw [manyW, if_neg (fun h => c1 (dec_and.mp h)), if_pos (dec_or.mpr c2)]
      rw [hmm] at hm ⊢
      rw [topW, if_pos (dec_or.mpr c2), if_neg (by omega)]
      refine Ev.step (f := fun k => casketref20_made.j0 k (lo : Int) (hi : Int) (I : Int) l p true) (fun k => ?_) ?_
      · simp only [casketref20_made.f]
        rw [hw4.out, hw5.out]
        by_cases c3 : (I : Int) + (l.length : Int) - 1 < (lo : Int)
        · rw [if_pos c3]
        · rw [if_neg c3, hw.out, decide_eq_true (by omega)]
      · refine Ev.step (f := fun k => some (rd_L1 p 0, p.drop 1)) (fun k => ?_) (Ev.now _)
        simp only [casketref20_made.j0]
        rw [if_pos trivial, if_pos (by omega), if_pos (by omega)]
    · obtain ⟨hn1, hn2⟩ := topW_node l I ((I : Int) + l.length - 1) (by omega) f lo hi p h2 h3 c1 c2 hm
      rw [hn1]
      rw [hn2] at hm ⊢
      have k1 := halfW_lt (hi - lo) c3
      have k2 := halfW_pos (hi - lo)
      obtain ⟨h, hh⟩ : ∃ h, h = halfW (hi - lo) := ⟨_, rfl⟩
      have he := half_ev (hi - lo) (by omega) (by omega)
      rw [← hh] at k1 k2 he hm ⊢
      have hw3 := Aside0.mk (show wrap64 ((lo : Int) + (h : Int)) = ((lo + h : Nat) : Int) by rw [w64 (by omega) (by omega)]; omega)
      have e1 := refmade_ev l I hl h1 hs hy hI f lo (lo + h) p (by omega) (by omega) (by omega) hp hz (by omega)
      have e2 := refmade_ev l I hl h1 hs hy hI f (lo + h) hi (p.drop (manyW f lo (lo + h) I ((I : Int) + l.length - 1))) (by omega) (by omega) (by omega) (hp.drop1 _) (hz.drop _) (by rw [List.length_drop]; omega)
      rw [List.drop_drop] at e2
      refine Ev.step (f := fun k => casketref20_made.j0 k (lo : Int) (hi : Int) (I : Int) l p false) (fun k => ?_) ?_
      · simp only [casketref20_made.f]
        rw [hw4.out, hw5.out, if_neg (by omega), hw.out, decide_eq_false (by omega)]
      · refine Ev.step (f := fun k => (casketref20_Half.f k ((hi - lo : Nat) : Int)).bind fun t537 => ((casketref20_made.f k lo (wrap64 (lo + t537)) I l p).bind fun bt538 => ((casketref20_made.f k (wrap64 (lo + t537)) hi I l bt538.2).bind fun bt544 => ((casketref20_Node.f k bt538.1 bt544.1).bind fun t550 => (some (t550, bt544.2)))))) (fun k => ?_) ?_
        · simp only [casketref20_made.j0]
          rw [if_neg (by decide), hw2.out, if_neg (by omega)]
        · refine Ev.bind he ?_
          rw [hw3.out]
          refine Ev.bind e1 ?_
          refine Ev.bind e2 ?_
          have s1 := topW_small f l I ((I : Int) + l.length - 1) lo (lo + h) p false hs hl hp
          have s2 := topW_small f l I ((I : Int) + l.length - 1) (lo + h) hi (p.drop (manyW f lo (lo + h) I ((I : Int) + l.length - 1))) false hs hl (hp.drop1 _)
          have y1 := topW_bytes f l I ((I : Int) + l.length - 1) lo (lo + h) p false hy hl hz
          have y2 := topW_bytes f l I ((I : Int) + l.length - 1) (lo + h) hi (p.drop (manyW f lo (lo + h) I ((I : Int) + l.length - 1))) false hy hl (hz.drop _)
          refine Ev.bind (refnode_ev _ _ s1.1 s2.1 y1.1 y2.1) ?_
          exact Ev.now _
/-! ### the root that leaves and a proof come to -/
/-- Where the program's answer is one: its conditions. -/
theorem rebuildW_bad (n i : Int) (l p : List (List Int)) (h : n < 1 ∨ n > 1048576 ∨ l.length = 0 ∨ i < 0 ∨ i ≥ n ∨ (l.length : Int) > n - i) : rebuildW n i l p = ([], 1) := if_pos h
theorem rebuildW_ok (N I : Nat) (l p : List (List Int)) (h1 : 1 ≤ N) (h2 : N ≤ 1048576) (h3 : 1 ≤ l.length) (h4 : I + l.length ≤ N) :
    rebuildW N I l p = if p.length = manyW N 0 N I ((I : Int) + l.length - 1) then ((topW N l I ((I : Int) + l.length - 1) 0 N p false).1, 0) else ([], 8) := by
  rw [rebuildW, if_neg (by omega)]
  obtain ⟨a1, a2⟩ := topW_rest l I ((I : Int) + l.length - 1) (by omega) N 0 N p (by omega) (by omega)
  rw [Int.toNat_natCast]
  dsimp only
  rcases Nat.lt_trichotomy p.length (manyW N 0 N I ((I : Int) + l.length - 1)) with h | h | h
  · rw [if_pos (Or.inl (a2 h)), if_neg (by omega)]
  · rw [if_pos h, a1 (by omega)]
    rw [if_neg]
    rintro (h' | h')
    · cases h'
    · rw [List.length_drop] at h'
      omega
  · rw [if_neg (show ¬ p.length = manyW N 0 N I ((I : Int) + l.length - 1) by omega), a1 (by omega), if_pos]
    right
    rw [List.length_drop]
    omega
theorem rebuildW_small (n i : Int) (l p : List (List Int)) (hl : l.length ≤ 1000) (hs : Small l) (hp : Small p) : (rebuildW n i l p).1.length ≤ 1000000 := by
  rw [rebuildW]
  split
  · simp
  · dsimp only
    split
    · simp
    · exact (topW_small _ _ _ _ _ _ _ _ hs hl hp).1
theorem rebuildW_bytes (n i : Int) (l p : List (List Int)) (hl : l.length ≤ 1000) (hy : AllBytes l) (hz : AllBytes p) : Bytes (rebuildW n i l p).1 := by
  rw [rebuildW]
  split
  · exact fun x hx => by cases hx
  · dsimp only
    split
    · exact fun x hx => by cases hx
    · exact (topW_bytes _ _ _ _ _ _ _ _ hy hl hz).1
theorem rebuild_f (n i : Int) (l p : List (List Int)) (hl : l.length ≤ 1000) (hs : Small l) (hpl : p.length ≤ 1000000) (hp : Small p) : merkle_Rebuild.f n i l p = some (rebuildW n i l p) := by
  unfold merkle_Rebuild.f
  rw [if_pos ⟨⟨hl, hs⟩, ⟨hpl, hp⟩⟩]
theorem refrebuild_ev (n i : Int) (l p : List (List Int)) (hl : l.length ≤ 1000) (hs : Small l) (hy : AllBytes l) (hpl : p.length ≤ 1000000) (hp : Small p) (hz : AllBytes p) : Ev (fun k => casketref20_Rebuild.f k n i l p) (rebuildW n i l p) := by
  unfold casketref20_Rebuild.f
  have hbad : n < 1 ∨ n > 1048576 ∨ l.length = 0 ∨ i < 0 ∨ i ≥ n ∨ (l.length : Int) > n - i → Ev (fun k => casketref20_Rebuild.j0 k n i l p true) (rebuildW n i l p) := fun h => by
    rw [rebuildW_bad n i l p h]
    refine Ev.step (f := fun _ => some (([] : List Int), (1 : Int))) (fun k => ?_) (Ev.now _)
    simp only [casketref20_Rebuild.j0, if_true]
  by_cases c1 : n < 1
  · simp only [if_pos c1]; exact hbad (Or.inl c1)
  simp only [if_neg c1]
  by_cases c2 : n > 1048576
  · simp only [if_pos c2]; exact hbad (Or.inr (Or.inl c2))
  simp only [if_neg c2]
  by_cases c3 : (l.length : Int) = 0
  · simp only [if_pos c3]; exact hbad (Or.inr (Or.inr (Or.inl (by omega))))
  simp only [if_neg c3]
  by_cases c4 : i < 0
  · simp only [if_pos c4]; exact hbad (Or.inr (Or.inr (Or.inr (Or.inl c4))))
  simp only [if_neg c4]
  by_cases c5 : i ≥ n
  · simp only [if_pos c5]; exact hbad (Or.inr (Or.inr (Or.inr (Or.inr (Or.inl c5)))))
  simp only [if_neg c5, w64 (show -(2 ^ 63) ≤ n - i by omega) (show n - i < 2 ^ 63 by omega)]
  by_cases c6 : (l.length : Int) > n - i
  · simp only [decide_eq_true c6]; exact hbad (Or.inr (Or.inr (Or.inr (Or.inr (Or.inr c6)))))
  simp only [decide_eq_false c6]
  obtain ⟨N, rfl⟩ : ∃ N : Nat, n = N := ⟨n.toNat, by omega⟩
  obtain ⟨I, rfl⟩ : ∃ I : Nat, i = I := ⟨i.toNat, by omega⟩
  rw [rebuildW_ok N I l p (by omega) (by omega) (by omega) (by omega)]
  have hw4 := Aside0.mk (show wrap64 ((I : Int) + (l.length : Int)) = (I : Int) + (l.length : Int) from w64 (by omega) (by omega))
  have hw5 := Aside0.mk (show wrap64 ((I : Int) + (l.length : Int) - 1) = (I : Int) + (l.length : Int) - 1 from w64 (by omega) (by omega))
  have hm := many_ev I ((I : Int) + l.length - 1) (by omega) (by omega) N 0 N (by omega) (by omega) (by omega) (by omega)
  refine Ev.step (f := fun k => (casketref20_Many.f k ((0 : Nat) : Int) N I ((I : Int) + l.length - 1)).bind fun t553 => (if (p.length : Int) = t553 then ((casketref20_made.f k ((0 : Nat) : Int) N I l p).bind fun bt554 => ((some (([] : List Int) : List Int)).bind fun y560 => (if y560.length + bt554.1.length < 140737488355328 then (some ((y560 ++ bt554.1), 0)) else (none)))) else (some (([] : List Int), 8)))) (fun k => ?_) ?_
  · simp only [casketref20_Rebuild.j0]
    rw [if_neg (by decide), hw4.out, hw5.out]
    rfl
  · refine Ev.bind hm ?_
    by_cases c7 : p.length = manyW N 0 N I ((I : Int) + l.length - 1)
    · rw [if_pos c7]
      simp only [if_pos (show (p.length : Int) = ((manyW N 0 N I ((I : Int) + l.length - 1) : Nat) : Int) by omega)]
      refine Ev.bind (refmade_ev l I hl (by omega) hs hy (by omega) N 0 N p (by omega) (by omega) (by omega) hp hz (by omega)) ?_
      have s1 := (topW_small N l I ((I : Int) + l.length - 1) 0 N p false hs hl hp).1
      dsimp only
      rw [Option.bind_some, if_pos (by simp only [List.length_nil]; omega)]
      exact Ev.now _
    · rw [if_neg c7]
      simp only [if_neg (show ¬ (p.length : Int) = ((manyW N 0 N I ((I : Int) + l.length - 1) : Nat) : Int) by omega)]
      exact Ev.now _
/-! ### is it the root? -/
theorem verify_ev (r : List Int) (n i : Int) (l p : List (List Int)) (hl : l.length ≤ 1000) (hs : Small l) (hy : AllBytes l) (hpl : p.length ≤ 1000000) (hp : Small p) (hz : AllBytes p) (hr : Bytes r) : Ev (fun k => merkle_Verify.f k r n i l p) (decide ((rebuildW n i l p).2 = 0 ∧ (rebuildW n i l p).1 = r)) := by
  unfold merkle_Verify.f
  simp only [rebuild_f n i l p hl hs hpl hp, Option.bind_some]
  by_cases c : (rebuildW n i l p).2 = 0
  · simp only [if_pos c]
    have h := hsame_ev (rebuildW n i l p).1 r (rebuildW_bytes n i l p hl hy hz) hr (Nat.le_trans (rebuildW_small n i l p hl hs hp) (by decide))
    refine Ev.bind h ?_
    rw [show decide ((rebuildW n i l p).2 = 0 ∧ (rebuildW n i l p).1 = r) = decide ((rebuildW n i l p).1 = r) from decide_eq_decide.mpr ⟨fun h => h.2, fun h => ⟨c, h⟩⟩]
    exact Ev.now _
  · simp only [if_neg c]
    rw [decide_eq_false (fun h => c h.1)]
    exact Ev.now _
theorem refverify_ev (r : List Int) (n i : Int) (l p : List (List Int)) (hl : l.length ≤ 1000) (hs : Small l) (hy : AllBytes l) (hpl : p.length ≤ 1000000) (hp : Small p) (hz : AllBytes p) : Ev (fun k => casketref20_Verify.f k r n i l p) (decide ((rebuildW n i l p).2 = 0 ∧ (rebuildW n i l p).1 = r)) := by
  unfold casketref20_Verify.f
  refine Ev.bind (refrebuild_ev n i l p hl hs hy hpl hp hz) ?_
  by_cases c : (rebuildW n i l p).2 = 0
  · simp only [if_pos c]
    have h := same_ev (rebuildW n i l p).1 r (Nat.le_trans (rebuildW_small n i l p hl hs hp) (by decide))
    refine Ev.bind h ?_
    rw [show decide ((rebuildW n i l p).2 = 0 ∧ (rebuildW n i l p).1 = r) = decide ((rebuildW n i l p).1 = r) from decide_eq_decide.mpr ⟨fun h => h.2, fun h => ⟨c, h⟩⟩]
    exact Ev.now _
  · simp only [if_neg c]
    rw [decide_eq_false (fun h => c h.1)]
    exact Ev.now _
end Go.Proofs.YtgdogjnjbinoiaaDoor.Q
