/- Parts of a list: where they lie, and their halves. -/
import Derived.Test.YtgdogjnjbinoiaaDoorDmrootX
namespace Go.Proofs.YtgdogjnjbinoiaaDoor.Q
open Go.RowKit Go.Proofs.YtgdogjnjbinoiaaDoorW.PrintWords Go.Proofs.YtgdogjnjbinoiaaDoorW.PrintLast Go.Proofs.YtgdogjnjbinoiaaDoorW.PrintMore Go.Proofs.YtgdogjnjbinoiaaDoor.H
set_option linter.unusedVariables false
set_option linter.unusedSimpArgs false
/-- A part as the program's value. -/
abbrev partV (lo hi : Int) : Value := .agg #[.int .i64 lo, .int .i64 hi]
set_option maxHeartbeats 1000000 in
set_option maxRecDepth 100000 in
theorem within_any (lo hi i j : Int) (w : World) (h0 : 0 ≤ lo) (h1 : lo ≤ 2000000) (h2 : 0 ≤ hi) (h3 : hi ≤ 2000000) :
    Calls Tryd.prog 32 #[partV lo hi, .int .i64 i, .int .i64 j] w fun e w' => e = .returned (.bool (decide (i ≤ lo) && decide (hi - 1 ≤ j))) ∧ Below w.heap.size w w' := by
  have L1 := (Below.refl w.heap.size w).alloc (Nat.le_refl _) (.cells #[.int .i64 lo, .int .i64 hi] 50)
  replace L1 := Aside0.mk L1
  go_enter Tryd.func32, Tryd.ntmps32
  go_wp2
  · go_ret
    refine ⟨?_, L1.out⟩
    rw [decide_eq_true (by assumption : i ≤ lo), Bool.true_and]
    rfl
  · go_ret
    refine ⟨?_, L1.out⟩
    rw [decide_eq_false (show ¬ i ≤ lo by omega), Bool.false_and]
    rfl
set_option maxHeartbeats 1000000 in
set_option maxRecDepth 100000 in
theorem apart_any (lo hi i j : Int) (w : World) (h0 : 0 ≤ lo) (h1 : lo ≤ 2000000) (h2 : 0 ≤ hi) (h3 : hi ≤ 2000000) :
    Calls Tryd.prog 33 #[partV lo hi, .int .i64 i, .int .i64 j] w fun e w' => e = .returned (.bool (decide (j < lo) || decide (hi - 1 < i))) ∧ Below w.heap.size w w' := by
  have L1 := (Below.refl w.heap.size w).alloc (Nat.le_refl _) (.cells #[.int .i64 lo, .int .i64 hi] 50)
  replace L1 := Aside0.mk L1
  go_enter Tryd.func33, Tryd.ntmps33
  go_wp2
  · go_ret
    refine ⟨?_, L1.out⟩
    rw [decide_eq_false (show ¬ j < lo by omega), Bool.false_or]
    rfl
  · go_ret
    refine ⟨?_, L1.out⟩
    rfl
theorem results_cell2_row {P : Program} {fn : Func} {p q : Tmp} {ty : TypeId} (h : fn.results = #[.cell p ty, .cell q ty]) (tmps : Array Value) (w : World) (g g' : Nat) (t : TypeId) (cs cs' : Array Value) (fr : Nat × Nat) (d : TypeDesc)
    (hp : tmps.getD p undef = .pointer (some ⟨g, 0, none⟩)) (hq : tmps.getD q undef = .pointer (some ⟨g', 0, none⟩)) (hg : w.heap[g]? = some (.cells cs t fr)) (hg' : w.heap[g']? = some (.cells cs' t fr))
    (hu : P.underlying ty = some d) (hd : (match d with | .struct _ | .array _ _ => true | _ => false) = true) (hi : (P.info? ty).map (·.size) = some cs.size) (hi' : (P.info? ty).map (·.size) = some cs'.size) :
    (results fn tmps).run P w = .ok (.tuple #[.agg cs, .agg cs']) w := by
  have hp' : tmps[p]?.getD undef = .pointer (some ⟨g, 0, none⟩) := by simpa using hp
  have hq' : tmps[q]?.getD undef = .pointer (some ⟨g', 0, none⟩) := by simpa using hq
  simp [results, h, hp', hq', asAddr, run_loadVar_row w g t ty cs fr d hg hu hd hi, run_loadVar_row w g' t ty cs' fr d hg' hu hd hi']
theorem two_setCell {w : World} {g : Nat} {t : TypeId} {a b x y : Value} (h : w.heap[g]? = some (.cells #[a, b] t (0, 0))) : ((w.setCell ⟨g, 0, none⟩ x).setCell ⟨g, 1, none⟩ y).heap[g]? = some (.cells #[x, y] t (0, 0)) := by
  have h1 := heap_setCell_same w g 0 #[a, b] t x h
  exact heap_setCell_same _ g 1 _ t y h1
theorem three_new (w : World) (A B C : Obj) (n : Nat) : (((((w.alloc A).alloc B).alloc C).drewN n).heap[w.heap.size + 1]? = some B) ∧ (((((w.alloc A).alloc B).alloc C).drewN n).heap[w.heap.size + 1 + 1]? = some C) ∧ Below w.heap.size w ((((w.alloc A).alloc B).alloc C).drewN n) := by
  have e1 : (w.alloc A).heap.size = w.heap.size + 1 := by simp
  have e2 : ((w.alloc A).alloc B).heap.size = w.heap.size + 1 + 1 := by simp
  refine ⟨?_, ?_, ?_⟩
  · show (((w.alloc A).alloc B).alloc C).heap[w.heap.size + 1]? = some B
    refine (heap_alloc_old ((w.alloc A).alloc B) C (show w.heap.size + 1 < _ by rw [e2]; exact Nat.lt_succ_self _)).trans ?_
    have := heap_alloc_new (w.alloc A) B
    rw [e1] at this
    exact this
  · show (((w.alloc A).alloc B).alloc C).heap[w.heap.size + 1 + 1]? = some C
    have := heap_alloc_new ((w.alloc A).alloc B) C
    rw [e2] at this
    exact this
  · refine pw_below_drewN ((((Below.refl w.heap.size w).alloc (Nat.le_refl _) A).alloc ?_ B).alloc ?_ C) n
    · rw [e1]; omega
    · rw [e2]; omega
theorem is_struct {x : Option TypeDesc} (h : (match x with | some (.struct _) => true | _ => false) = true) : ∃ fs, x = some (.struct fs) := by
  split at h
  · exact ⟨_, rfl⟩
  · cases h
theorem halfW_lt (n : Nat) (h : 2 ≤ n) : halfW n < n := by
  have : 2 ^ Nat.log2 (n - 1) ≤ n - 1 := (Nat.le_log2 (by omega)).mp (Nat.le_refl _)
  rw [halfW]
  omega
theorem halfW_pos (n : Nat) : 0 < halfW n := Nat.pos_of_ne_zero (by rw [halfW]; simp)
set_option maxHeartbeats 1000000 in
set_option maxRecDepth 100000 in
theorem split_any (lo hi : Nat) (w : World) (h0 : lo + 2 ≤ hi) (h3 : hi ≤ 2000000) :
    Calls Tryd.prog 34 #[partV lo hi] w fun e w' => e = .returned (.tuple #[partV lo (lo + halfW (hi - lo) : Nat), partV (lo + halfW (hi - lo) : Nat) hi]) ∧ Below w.heap.size w w' := by
  have hk1 := halfW_lt (hi - lo) (by omega)
  have hk2 := halfW_pos (hi - lo)
  obtain ⟨k, hk⟩ : ∃ k, k = halfW (hi - lo) := ⟨_, rfl⟩
  have hh : ∀ w, Calls Tryd.prog 46 #[.int .i64 ((hi : Int) - lo)] w fun e w' => e = .returned (.int .i64 (k : Nat)) ∧ w' = w := fun w => by
    rw [show (hi : Int) - lo = ((hi - lo : Nat) : Int) by omega, hk]
    exact half_any (hi - lo) w (by omega) (by omega)
  rw [← hk] at hk1 hk2 ⊢
  clear hk
  go_enter Tryd.func34, Tryd.ntmps34
  go_wp2
  have hw1 : wrap64 ((hi : Int) - lo) = (hi : Int) - lo := F.w64 (by omega) (by omega)
  have hw2 : wrap64 ((lo : Int) + k) = (lo : Int) + k := F.w64 (by omega) (by omega)
  go_quiet ((go_at_call 46; exact Calls.quiet_of_same (hh _)))
  clear hw1 hw2
  go_wp2
  go_region
  go_wp2
  obtain ⟨hb3, hb2, L1⟩ := three_new w (.cells #[.int .i64 lo, .int .i64 hi] 50) (.cells #[.int .i64 0, .int .i64 0] 50) (.cells #[.int .i64 0, .int .i64 0] 50) (nq + 1)
  generalize World.drewN _ (nq + 1) = W1 at L1 hb2 hb3 ⊢
  have g1 := two_setCell (x := .int .i64 lo) (y := .int .i64 ((lo : Int) + k)) hb3
  have g2 := ((heap_setCell_other _ ⟨w.heap.size + 1, 1, none⟩ (w.heap.size + 1 + 1) (.int .i64 ((lo : Int) + k)) (by show w.heap.size + 1 + 1 ≠ w.heap.size + 1; omega)).trans (heap_setCell_other W1 ⟨w.heap.size + 1, 0, none⟩ (w.heap.size + 1 + 1) (.int .i64 lo) (by show w.heap.size + 1 + 1 ≠ w.heap.size + 1; omega))).trans hb2
  have g3 := two_setCell (x := .int .i64 ((lo : Int) + k)) (y := .int .i64 hi) g2
  have g4 := ((heap_setCell_other _ ⟨w.heap.size + 1 + 1, 1, none⟩ (w.heap.size + 1) (.int .i64 hi) (by show w.heap.size + 1 ≠ w.heap.size + 1 + 1; omega)).trans (heap_setCell_other _ ⟨w.heap.size + 1 + 1, 0, none⟩ (w.heap.size + 1) (.int .i64 ((lo : Int) + k)) (by show w.heap.size + 1 ≠ w.heap.size + 1 + 1; omega))).trans g1
  obtain ⟨fs, hu50⟩ := is_struct (x := Tryd.prog.underlying 50) (by kernel_rfl)
  refine bodyPost_ret (results_cell2_row rfl _ _ (w.heap.size + 1) (w.heap.size + 1 + 1) 50 _ _ (0, 0) _ rfl rfl g4 g3 hu50 (by rfl) (by kernel_rfl) (by kernel_rfl)) rfl ⟨rfl, ?_⟩
  exact (((L1.setCell (p := ⟨w.heap.size + 1, 0, none⟩) (Nat.le_succ _) _).setCell (p := ⟨w.heap.size + 1, 1, none⟩) (Nat.le_succ _) _).setCell (p := ⟨w.heap.size + 1 + 1, 0, none⟩) (by show w.heap.size ≤ w.heap.size + 1 + 1; omega) _).setCell (p := ⟨w.heap.size + 1 + 1, 1, none⟩) (by show w.heap.size ≤ w.heap.size + 1 + 1; omega) _
end Go.Proofs.YtgdogjnjbinoiaaDoor.Q
