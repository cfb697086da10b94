/- What the document's tree of sums comes to: the same. No program in sight. -/
import Derived.Test.YtgdogjnjbinoiaaDoorHtree
import Derived.Test.YtgdogjnjbinoiaaDoorDmerkw
namespace Go.Proofs.YtgdogjnjbinoiaaDoor.Q
open Go.RowKit Go.Proofs.YtgdogjnjbinoiaaDoorW.PrintWords Go.Proofs.YtgdogjnjbinoiaaDoorW.PrintLast Go.Proofs.YtgdogjnjbinoiaaDoorW.PrintMore Go.Proofs.YtgdogjnjbinoiaaDoor.F
set_option linter.unusedVariables false
set_option linter.unusedSimpArgs false
/-- Lists of bytes. -/
def AllBytes (l : List (List Int)) : Prop := ∀ x ∈ l, Bytes x
theorem AllBytes.take {l : List (List Int)} (h : AllBytes l) (n : Nat) : AllBytes (l.take n) := fun x hx => h x (List.mem_of_mem_take hx)
theorem AllBytes.drop {l : List (List Int)} (h : AllBytes l) (n : Nat) : AllBytes (l.drop n) := fun x hx => h x (List.mem_of_mem_drop hx)
theorem Small.take {l : List (List Int)} (h : Small l) (n : Nat) : Small (l.take n) := fun x hx => h x (List.mem_of_mem_take hx)
theorem Small.drop {l : List (List Int)} (h : Small l) (n : Nat) : Small (l.drop n) := fun x hx => h x (List.mem_of_mem_drop hx)
theorem bytes_rdL {l : List (List Int)} (h : AllBytes l) (i : Int) : Bytes (rd_L1 l i) := by
  rw [rd_L1, List.getD_eq_getElem?_getD]
  rcases Nat.lt_or_ge i.toNat l.length with h1 | h1
  · rw [List.getElem?_eq_getElem h1]
    exact h _ (List.getElem_mem h1)
  · rw [List.getElem?_eq_none h1]
    intro x hx
    cases hx
theorem bytesN_bytes (s : List Int) : ∀ k, Bytes (bytesN s k)
  | 0 => fun x hx => by cases hx
  | k + 1 => (bytesN_bytes s k).append (fun x hx => by
    simp only [be4, List.mem_cons, List.not_mem_nil, or_false] at hx
    omega)
theorem shaW_bytesM (b : List Int) : Bytes (shaW b) := bytesN_bytes _ 8
theorem nodeW_bytes (a b : List Int) : Bytes (nodeW a b) := shaW_bytesM _
theorem rootW_bytes {l : List (List Int)} (h : AllBytes l) (hl : l.length ≤ 1000) : Bytes (rootW l) := by
  by_cases h0 : l.length = 0
  · rw [rootW_none l h0]; exact shaW_bytesM _
  · by_cases h1 : l.length = 1
    · rw [rootW_one l h1]; exact bytes_rdL h _
    · rw [rootW_half l hl (by omega)]; exact nodeW_bytes _ _
theorem rootW_small {l : List (List Int)} (h : Small l) (hl : l.length ≤ 1000) : (rootW l).length ≤ 1000000 := by
  by_cases h0 : l.length = 0
  · rw [rootW_none l h0, shaW_length]; decide
  · by_cases h1 : l.length = 1
    · rw [rootW_one l h1]; exact small_rd h _
    · rw [rootW_half l hl (by omega), nodeW_length]; decide
/-! ### the half -/
theorem half_ev (n : Nat) (h0 : 1 ≤ n) (h1 : n ≤ 2000000) : Ev (fun k => casketref20_Half.f k (n : Int)) ((halfW n : Nat) : Int) := by
  obtain ⟨L, hL⟩ : ∃ L, L = Nat.log2 (n - 1) := ⟨_, rfl⟩
  have hL21 : 2 ^ L ≤ 2000000 := by
    by_cases h2 : n = 1
    · rw [hL, h2]; decide
    · have := (two_log (n - 1) (by omega)).1
      rw [← hL] at this
      omega
  have hw : halfW n = 2 ^ L := by rw [halfW, hL]
  have hstop : ¬ 2 * 2 ^ L < n := by
    by_cases h2 : n = 1
    · rw [hL, h2]; decide
    · have := (two_log (n - 1) (by omega)).2
      rw [← hL] at this
      omega
  have key : ∀ (d j : Nat), L - j = d → j ≤ L → Ev (fun k => casketref20_Half.l0 k (n : Int) ((2 ^ j : Nat) : Int)) ((2 ^ L : Nat) : Int) := by
    intro d
    induction d with
    | zero =>
      intro j hd hj
      obtain rfl : j = L := by omega
      refine Ev.step (f := fun _ => some ((2 ^ j : Nat) : Int)) (fun k => ?_) (Ev.now _)
      simp only [casketref20_Half.l0]
      generalize 2 ^ j = q at hL21 hstop ⊢
      rw [w64 (by omega) (by omega), if_neg (by omega)]
    | succ d ih =>
      intro j hd hj
      have hm : 2 ^ (j + 1) ≤ 2 ^ L := Nat.pow_le_pow_right (by decide) (by omega)
      have hlt : 2 ^ L < n := by
        have h2 : n ≠ 1 := fun e => by rw [e] at hL; simp at hL; omega
        have := (two_log (n - 1) (by omega)).1
        rw [← hL] at this
        omega
      refine Ev.step (f := fun k => casketref20_Half.l0 k (n : Int) ((2 ^ (j + 1) : Nat) : Int)) (fun k => ?_) (ih (j + 1) (by omega) (by omega))
      simp only [casketref20_Half.l0]
      rw [Nat.pow_succ] at hm ⊢
      generalize 2 ^ j = q at hm ⊢
      generalize 2 ^ L = r at hm hlt hL21 ⊢
      rw [w64 (by omega) (by omega), if_pos (by omega)]
      rfl
  rw [hw]
  exact key L 0 (by omega) (by omega)
/-! ### nodes and roots -/
theorem refnode_ev (a b : List Int) (ha : a.length ≤ 1000000) (hb : b.length ≤ 1000000) (hy : Bytes a) (hz : Bytes b) : Ev (fun k => casketref20_Node.f k a b) (nodeW a b) := by
  have h1 : ([1] : List Int).length + a.length < 140737488355328 := by simp; omega
  have h2 : ([1] ++ a).length + b.length < 140737488355328 := by simp; omega
  unfold casketref20_Node.f
  simp only [Option.bind_some, if_pos h1, if_pos h2]
  refine Ev.bind (refsum_ev ([1] ++ a ++ b) (by simp; omega) (Bytes.append (Bytes.append (fun x hx => by rw [List.mem_singleton] at hx; omega) hy) hz)) ?_
  exact Ev.now _
theorem refleaf_ev (a : List Int) (ha : a.length ≤ 1000000) (hy : Bytes a) : Ev (fun k => casketref20_Leaf.f k a) (shaW (0 :: a)) := by
  have h1 : ([0] : List Int).length + a.length < 140737488355328 := by simp; omega
  unfold casketref20_Leaf.f
  simp only [Option.bind_some, if_pos h1]
  refine Ev.bind (refsum_ev ([0] ++ a) (by simp; omega) (Bytes.append (fun x hx => by rw [List.mem_singleton] at hx; omega) hy)) ?_
  exact Ev.now _
theorem refroot_ev : ∀ (n : Nat) (l : List (List Int)), l.length = n → n ≤ 1000 → Small l → AllBytes l → Ev (fun k => casketref20_Root.f k l) (rootW l) := by
  intro n
  induction n using Nat.strongRecOn with
  | _ n ih =>
    intro l hl hn hs hy
    by_cases h0 : n = 0
    · refine Ev.step (f := fun k => (casketref13_Sum.f k ([] : List Int)).bind fun t => some t) (fun k => ?_) ?_
      · simp only [casketref20_Root.f]
        rw [if_pos (by omega)]
      · rw [rootW_none l (by omega)]
        exact Ev.bind (refsum_ev [] (by decide) (fun x hx => by cases hx)) (Ev.now _)
    · by_cases h1 : n = 1
      · refine Ev.step (f := fun k => some (rootW l)) (fun k => ?_) (Ev.now _)
        simp only [casketref20_Root.f]
        have := small_rd hs 0
        rw [if_neg (by omega), if_pos (by omega), Option.bind_some, if_pos (by omega), if_pos (by simp; omega), rootW_one l (by omega)]
        rfl
      · have k1 := halfW_lt n (by omega)
        have k2 := halfW_pos n
        have e1 := rootW_half l (by omega) (by omega)
        rw [hl] at e1
        refine Ev.step (f := fun k => (casketref20_Half.f k (n : Int)).bind fun t298 => (if 0 ≤ t298 then (if t298 ≤ (n : Int) then ((casketref20_Root.f k (l.take (t298 : Int).toNat)).bind fun t303 => ((casketref20_Root.f k (l.drop (t298 : Int).toNat)).bind fun t310 => ((casketref20_Node.f k t303 t310).bind fun t313 => (some t313)))) else (none)) else (none))) (fun k => ?_) ?_
        · simp only [casketref20_Root.f]
          rw [if_neg (by omega), if_neg (by omega), hl]
        · refine Ev.bind (half_ev n (by omega) (by omega)) ?_
          simp only [if_pos (show (0 : Int) ≤ ((halfW n : Nat) : Int) by omega), if_pos (show ((halfW n : Nat) : Int) ≤ (n : Int) by omega), Int.toNat_natCast]
          refine Ev.bind (ih (halfW n) (by omega) (l.take (halfW n)) (by rw [List.length_take]; omega) (by omega) (hs.take _) (hy.take _)) ?_
          refine Ev.bind (ih (n - halfW n) (by omega) (l.drop (halfW n)) (by rw [List.length_drop]; omega) (by omega) (hs.drop _) (hy.drop _)) ?_
          rw [e1]
          refine Ev.bind (refnode_ev _ _ (rootW_small (hs.take _) (by rw [List.length_take]; omega)) (rootW_small (hs.drop _) (by rw [List.length_drop]; omega)) (rootW_bytes (hy.take _) (by rw [List.length_take]; omega)) (rootW_bytes (hy.drop _) (by rw [List.length_drop]; omega))) ?_
          exact Ev.now _
/-! ### few leaves -/
def fewB (l : List (List Int)) (n : Nat) : Bool := decide (l.length ≤ n) && l.all (fun x => decide (x.length ≤ 200))
theorem fewB_small {l : List (List Int)} {n : Nat} (h : fewB l n = true) : l.length ≤ n ∧ Small l := by
  rw [fewB, Bool.and_eq_true, decide_eq_true_eq] at h
  refine ⟨h.1, fun x hx => ?_⟩
  have := List.all_eq_true.mp h.2 x hx
  rw [decide_eq_true_eq] at this
  omega
theorem few_ev (l : List (List Int)) (n : Nat) (hn : n ≤ 1000) : Ev (fun k => casketlaw20_few.f k l (n : Int)) (fewB l n) := by
  unfold casketlaw20_few.f
  by_cases h : (l.length : Int) > (n : Int)
  · simp only [if_pos h]
    rw [fewB, decide_eq_false (by omega), Bool.false_and]
    exact Ev.now _
  · simp only [if_neg h]
    rw [fewB, decide_eq_true (by omega), Bool.true_and]
    have key : ∀ (d i : Nat), l.length - i = d → i ≤ l.length → Ev (fun k => casketlaw20_few.l0 k l (i : Int)) ((l.drop i).all (fun x => decide (x.length ≤ 200))) := by
      intro d
      induction d with
      | zero =>
        intro i hd hi
        refine Ev.step (f := fun _ => some true) (fun k => ?_) ?_
        · simp only [casketlaw20_few.l0]; rw [if_neg (by omega)]
        · rw [List.drop_of_length_le (by omega)]
          exact Ev.now _
      | succ d ih =>
        intro i hd hi
        have h1 : i < l.length := by omega
        rw [List.drop_eq_getElem_cons h1, List.all_cons]
        by_cases h2 : ((rd_L1 l (i : Nat)).length : Int) > 200
        · refine Ev.step (f := fun _ => some false) (fun k => ?_) ?_
          · simp only [casketlaw20_few.l0]; rw [if_pos (by omega), if_pos (by omega), if_pos h2]
          · rw [rd_L1_nat l i h1] at h2
            rw [decide_eq_false (by omega), Bool.false_and]
            exact Ev.now _
        · refine Ev.step (f := fun k => casketlaw20_few.l0 k l ((i + 1 : Nat) : Int)) (fun k => ?_) ?_
          · simp only [casketlaw20_few.l0]; rw [if_pos (by omega), if_pos (by omega), if_neg h2, w64 (by omega) (by omega)]
            rfl
          · rw [rd_L1_nat l i h1] at h2
            rw [decide_eq_true (by omega), Bool.true_and]
            exact ih (i + 1) (by omega) (by omega)
    exact key l.length 0 (by omega) (by omega)
/-! ### the example -/
theorem awake_ev : Ev (fun k => casketlaw20_awake.f k) true := by
  unfold casketlaw20_awake.f
  simp only [Option.bind_some]
  rw [show ([[1], [2], [3]] : List (List Int)) = exL from rfl, root_f exL (by decide) exS, prove_f exL 1 1 (by decide) exS, prove_f exL 0 2 (by decide) exS, ex_root, ex_p1, ex_p2, show rd_L1 exL 0 = [1] from rfl, show rd_L1 exL 1 = [2] from rfl, show rd_L1 exL 2 = [3] from rfl, node_f [1] [2] (by decide) (by decide)]
  simp only [Option.bind_some]
  rw [node_f _ [3] (by rw [nodeW_length]; decide) (by decide)]
  simp only [Option.bind_some]
  simp only [if_pos (show (0 : Int) < (exL.length : Int) by decide), if_pos (show (1 : Int) < (exL.length : Int) by decide), if_pos (show (2 : Int) < (exL.length : Int) by decide)]
  have h1 := same13_ev (nodeW (nodeW [1] [2]) [3]) (nodeW (nodeW [1] [2]) [3]) (by rw [nodeW_length]; decide)
  rw [decide_eq_true rfl] at h1
  refine Ev.bind h1 ?_
  simp only [if_true, nodeW_length, if_pos (show ((32 : Nat) : Int) = 32 from rfl)]
  have h2 := sames_ev [[1], [3]] [[1], [3]] (by decide) (fun x hx => by
    rw [List.mem_cons, List.mem_singleton] at hx
    rcases hx with rfl | rfl <;> decide)
  rw [decide_eq_true rfl] at h2
  refine Ev.bind h2 ?_
  exact Ev.now _
/-! ### proofs -/
theorem refwalk_ev (l : List (List Int)) (i j : Int) (hl : l.length ≤ 1000) (hs : Small l) (hy : AllBytes l) : ∀ (f lo hi : Nat), hi - lo ≤ f → lo < hi → hi ≤ l.length →
    Ev (fun k => casketref20_walk.f k l (lo : Int) (hi : Int) i j) (walkW f l lo hi i j)
  | 0, lo, hi, h1, h2, _ => by omega
  | f + 1, lo, hi, h1, h2, h3 => by
    have hw := Aside0.mk (show wrap64 ((hi : Int) - 1) = (hi : Int) - 1 from w64 (by omega) (by omega))
    have hw2 := Aside0.mk (show wrap64 ((hi : Int) - (lo : Int)) = ((hi - lo : Nat) : Int) by rw [w64 (by omega) (by omega)]; omega)
    by_cases c1 : i ≤ (lo : Int) ∧ (hi : Int) - 1 ≤ j
    · rw [walkW, if_pos (by rw [decide_eq_true c1.1, decide_eq_true c1.2]; rfl)]
      refine Ev.step (f := fun k => casketref20_walk.j0 k l (lo : Int) (hi : Int) i j true) (fun k => ?_) ?_
      · simp only [casketref20_walk.f]
        rw [if_pos c1.1, hw.out, decide_eq_true c1.2]
      · refine Ev.step (f := fun k => some []) (fun k => ?_) (Ev.now _)
        simp only [casketref20_walk.j0, if_true]
    · have hf : Ev (fun k => casketref20_walk.j0 k l (lo : Int) (hi : Int) i j false) (walkW (f + 1) l lo hi i j) → Ev (fun k => casketref20_walk.f k l (lo : Int) (hi : Int) i j) (walkW (f + 1) l lo hi i j) := by
        intro hj
        refine Ev.step (f := fun k => casketref20_walk.j0 k l (lo : Int) (hi : Int) i j false) (fun k => ?_) hj
        simp only [casketref20_walk.f]
        by_cases c2 : i ≤ (lo : Int)
        · rw [if_pos c2, hw.out, decide_eq_false (by omega)]
        · rw [if_neg c2]
      apply hf
      rw [walkW, if_neg (by rw [Bool.and_eq_true, decide_eq_true_eq, decide_eq_true_eq]; exact c1)]
      by_cases c2 : j < (lo : Int) ∨ (hi : Int) - 1 < i
      · rw [if_pos (by rw [Bool.or_eq_true, decide_eq_true_eq, decide_eq_true_eq]; exact c2)]
        refine Ev.step (f := fun k => casketref20_walk.j1 k l (lo : Int) (hi : Int) i j true) (fun k => ?_) ?_
        · simp only [casketref20_walk.j0]
          rw [if_neg (by decide)]
          by_cases c3 : j < (lo : Int)
          · rw [if_pos c3]
          · rw [if_neg c3, hw.out, decide_eq_true (by omega)]
        · refine Ev.step (f := fun k => (casketref20_Root.f k ((l.take hi).drop lo)).bind fun t => some [t]) (fun k => ?_) ?_
          · simp only [casketref20_walk.j1]
            rw [if_pos trivial, if_pos (by omega), if_pos (by omega), if_pos (by omega), Int.toNat_natCast, Int.toNat_natCast]
          · refine Ev.bind (refroot_ev _ ((l.take hi).drop lo) rfl (by rw [List.length_drop, List.length_take]; omega) ((hs.take hi).drop lo) ((hy.take hi).drop lo)) ?_
            exact Ev.now _
      · rw [if_neg (by rw [Bool.or_eq_true, decide_eq_true_eq, decide_eq_true_eq]; exact c2)]
        have k1 := halfW_lt (hi - lo) (by omega)
        have k2 := halfW_pos (hi - lo)
        obtain ⟨h, hh⟩ : ∃ h, h = halfW (hi - lo) := ⟨_, rfl⟩
        have he := half_ev (hi - lo) (by omega) (by omega)
        rw [← hh] at k1 k2 he ⊢
        have hw3 := Aside0.mk (show wrap64 ((lo : Int) + (h : Int)) = ((lo + h : Nat) : Int) by rw [w64 (by omega) (by omega)]; omega)
        have n1 := walkW_length f l lo (lo + h) i j (by omega)
        have n2 := walkW_length f l (lo + h) hi i j (by omega)
        refine Ev.step (f := fun k => casketref20_walk.j1 k l (lo : Int) (hi : Int) i j false) (fun k => ?_) ?_
        · simp only [casketref20_walk.j0]
          rw [if_neg (by decide), if_neg (by omega), hw.out, decide_eq_false (by omega)]
        · refine Ev.step (f := fun k => (casketref20_Half.f k ((hi - lo : Nat) : Int)).bind fun t326 => ((casketref20_walk.f k l lo (wrap64 (lo + t326)) i j).bind fun t327 => ((casketref20_walk.f k l (wrap64 (lo + t326)) hi i j).bind fun t330 => (if t327.length + t330.length < 5864062014805 then (some (t327 ++ t330)) else (none))))) (fun k => ?_) ?_
          · simp only [casketref20_walk.j1]
            rw [if_neg (by decide), hw2.out]
          · refine Ev.bind he ?_
            rw [hw3.out]
            refine Ev.bind (refwalk_ev l i j hl hs hy f lo (lo + h) (by omega) (by omega) (by omega)) ?_
            refine Ev.bind (refwalk_ev l i j hl hs hy f (lo + h) hi (by omega) (by omega) (by omega)) ?_
            rw [if_pos (by omega)]
            exact Ev.now _
theorem refprove_ev (l : List (List Int)) (i j : Int) (hl : l.length ≤ 1000) (hs : Small l) (hy : AllBytes l) : Ev (fun k => casketref20_Prove.f k l i j) (proveW l i j) := by
  unfold casketref20_Prove.f
  by_cases c1 : i < 0
  · rw [proveW, if_pos (Or.inl c1)]
    simp only [if_pos c1]
    exact Ev.now _
  · by_cases c2 : j < i
    · rw [proveW, if_pos (Or.inr (Or.inl c2))]
      simp only [if_neg c1, if_pos c2]
      exact Ev.now _
    · by_cases c3 : (l.length : Int) ≤ j
      · rw [proveW, if_pos (Or.inr (Or.inr c3))]
        simp only [if_neg c1, if_neg c2, if_pos (show j ≥ (l.length : Int) from c3)]
        exact Ev.now _
      · rw [proveW, if_neg (by omega)]
        simp only [if_neg c1, if_neg c2, if_neg (show ¬ j ≥ (l.length : Int) from c3)]
        refine Ev.bind (refwalk_ev l i j hl hs hy l.length 0 l.length (by omega) (by omega) (Nat.le_refl _)) ?_
        exact Ev.now _
end Go.Proofs.YtgdogjnjbinoiaaDoor.Q
