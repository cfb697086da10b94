/- The document's search for two texts with the same sum, walked: it finds what the plain search finds. -/
import Derived.Test.YtgdogjnjbinoiaaDoorHcl
import Derived.Test.YtgdogjnjbinoiaaDoorHprove
import Derived.Test.YtgdogjnjbinoiaaDoorCref20
import Derived.Test.YtgdogjnjbinoiaaDoorCref01
namespace Go.Proofs.YtgdogjnjbinoiaaDoor.Q
open Go.RowKit Go.Proofs.YtgdogjnjbinoiaaDoorW.PrintWords Go.Proofs.YtgdogjnjbinoiaaDoorW.PrintLast Go.Proofs.YtgdogjnjbinoiaaDoorW.PrintMore Go.Proofs.YtgdogjnjbinoiaaDoor.F Go.Proofs.YtgdogjnjbinoiaaDoor.H
set_option linter.unusedVariables false
set_option linter.unusedSimpArgs false
/-- A slice of bytes that is read. -/
def SL (w : World) (v : Value) (l : List Int) : Prop := ∃ A c, v = .slice A l.length c ∧ l.length ≤ c ∧ Kd.C (Kd.int .u8) w A l.length l
theorem SL.below {w w' : World} {v : Value} {l : List Int} (h : SL w v l) (hb : Below w.heap.size w w') : SL w' v l := by
  obtain ⟨A, c, e, h1, h2⟩ := h
  exact ⟨A, c, e, h1, Kd.C_below h2 hb⟩
theorem SL.nil (w : World) : SL w (.slice none 0 0) [] := ⟨none, 0, rfl, Nat.le_refl _, Kd.C_nil _ _⟩
theorem SL.of_R {w : World} {e base : Nat} {ok : Nat → Prop} {v : Value} {l : List Int} (h : Kd.R (Kd.int .u8) e w base ok v l) : SL w v l := by
  obtain ⟨A, c, e1, h1, h2⟩ := Kd.R_reads h
  exact ⟨A, c, e1, h1, h2⟩
theorem SL.C {w : World} {A : Option Addr} {n c : Nat} {l : List Int} (h : SL w (.slice A n c) l) : Kd.C (Kd.int .u8) w A n l := by
  obtain ⟨A', c', e, _, h2⟩ := h
  injection e with e1 e2 e3
  rw [e1, e2]
  exact h2
theorem SL.cap {w : World} {A : Option Addr} {n c : Nat} {l : List Int} (h : SL w (.slice A n c) l) : l.length ≤ c := by
  obtain ⟨A', c', e, h1, _⟩ := h
  injection e with e1 e2 e3
  rw [e3]
  exact h1
/-- A block of two slices: no byte lies in it. -/
def Pair2 (w : World) (g : Nat) (a b : Value) : Prop := w.heap[g]? = some (.cells #[a, b] 42 (0, 0)) ∧ (∃ A n c, a = .slice A n c) ∧ (∃ A n c, b = .slice A n c)
theorem Pair2.no_int {w : World} {g : Nat} {a b : Value} (h : Pair2 w g a b) {q : Addr} {k : IntKind} {n : Int} (hq : w.cell? q = some (.int k n)) : g ≠ q.block := by
  rintro rfl
  obtain ⟨h1, ⟨A, m, c, rfl⟩, ⟨A', m', c', rfl⟩⟩ := h
  obtain ⟨qb, qo, qs⟩ := q
  simp only [World.cell?, h1] at hq
  match qo, qs with
  | 0, none => simp at hq
  | 1, none => simp at hq
  | j + 2, none => simp at hq
  | _, some _ => simp at hq
theorem SL.set {w : World} {v : Value} {l : List Int} {g : Nat} {a b : Value} (h : SL w v l) (hg : Pair2 w g a b) (j : Nat) (u : Value) : SL (w.setCell ⟨g, j, none⟩ u) v l := by
  obtain ⟨A, c, e, h1, h2⟩ := h
  obtain ⟨r1, r2, r3⟩ := Kd.reads_of_C (enc := Value.int .u8) (d := (0 : Int)) (h1 := fun _ => rfl) h2
  refine ⟨A, c, e, h1, Kd.C_of_reads (enc := Value.int .u8) (d := (0 : Int)) (h1 := fun _ => rfl) ⟨r1, r2, fun hp => ?_⟩⟩
  obtain ⟨ad, ea, hc⟩ := r3 hp
  exact ⟨ad, ea, fun i hi => (World.cell?_setCell_far w ⟨g, j, none⟩ _ u (hg.no_int (hc i hi))).trans (hc i hi)⟩
theorem Pair2.below {w w' : World} {g : Nat} {a b : Value} {B : Nat} (h : Pair2 w g a b) (hb : Below B w w') (hB : g < B) : Pair2 w' g a b := ⟨(hb.block g hB).trans h.1, h.2⟩
theorem Pair2.lt {w : World} {g : Nat} {a b : Value} (h : Pair2 w g a b) : g < w.heap.size := (Array.getElem?_eq_some_iff.1 h.1).1
theorem Pair2.put {w : World} {g : Nat} {a b u v : Value} (h : Pair2 w g a b) (hu : ∃ A n c, u = .slice A n c) (hv : ∃ A n c, v = .slice A n c) : Pair2 ((w.setCell ⟨g, 0, none⟩ u).setCell ⟨g, 1, none⟩ v) g u v := ⟨two_setCell h.1, hu, hv⟩
theorem Pair2.put0 {w : World} {g : Nat} {a b u : Value} (h : Pair2 w g a b) (hu : ∃ A n c, u = .slice A n c) : Pair2 (w.setCell ⟨g, 0, none⟩ u) g u b := ⟨heap_setCell_same w g 0 #[a, b] 42 u h.1, hu, h.2.2⟩
theorem Pair2.other {w : World} {g g' : Nat} {a b : Value} (h : Pair2 w g a b) (hne : g ≠ g') (j : Nat) (u : Value) : Pair2 (w.setCell ⟨g', j, none⟩ u) g a b := ⟨(heap_setCell_other w ⟨g', j, none⟩ g u hne).trans h.1, h.2⟩
/-- Both cells of a pair are stored; what is read stays. -/
theorem SL.set2 {w : World} {v : Value} {l : List Int} {g : Nat} {a b u u' : Value} (h : SL w v l) (hg : Pair2 w g a b) (hu : ∃ A n c, u = .slice A n c) : SL ((w.setCell ⟨g, 0, none⟩ u).setCell ⟨g, 1, none⟩ u') v l := (h.set hg 0 u).set (hg.put0 hu) 1 u'
theorem SL.is {w : World} {v : Value} {l : List Int} (h : SL w v l) : ∃ A n c, v = .slice A n c := by
  obtain ⟨A, c, e, _⟩ := h
  exact ⟨A, _, c, e⟩
/-- A new pair, filled. -/
abbrev boxed (w : World) (u v : Value) : World := w.alloc (.cells #[u, v] 42)
theorem boxed_new (w : World) {u v : Value} (hu : ∃ A n c, u = .slice A n c) (hv : ∃ A n c, v = .slice A n c) : Pair2 (boxed w u v) w.heap.size u v := ⟨heap_alloc_new w _, hu, hv⟩
theorem boxed_below (w : World) (u v : Value) : Below w.heap.size w (boxed w u v) := (Below.refl w.heap.size w).alloc (Nat.le_refl _) _
theorem Pair2.cells {w : World} {g : Nat} {a b : Value} (h : Pair2 w g a b) : w.cell? ⟨g, 0, none⟩ = some a ∧ w.cell? ⟨g, 1, none⟩ = some b := pair_cells h.1
theorem Pair2.free {w : World} {g : Nat} {a b : Value} (h : Pair2 w g a b) (j : Nat) : w.frozen? ⟨g, j, none⟩ = false := by
  simp [World.frozen?, h.1]
theorem Pair2.other2 {w : World} {g g' : Nat} {a b : Value} (h : Pair2 w g a b) (hne : g ≠ g') (u v : Value) : Pair2 ((w.setCell ⟨g', 0, none⟩ u).setCell ⟨g', 1, none⟩ v) g a b := (h.other hne 0 u).other hne 1 v
/-- Two texts that clash are to be told. -/
def Hit (bb fd : Bool) (a b one two : List Int) : Prop := bb = true ↔ (fd = false ∧ a = b ∧ ¬ one = two)
theorem Hit.no1 {a b one two : List Int} : Hit false true a b one two := ⟨fun h => (by cases h), fun h => (by cases h.1)⟩
theorem Hit.no2 {fd : Bool} {a b one two : List Int} (h2 : one = two) : Hit false fd a b one two := ⟨fun h => (by cases h), fun h => absurd h2 h.2.2⟩
theorem Hit.no3 {fd : Bool} {a b one two : List Int} (h2 : ¬ a = b) : Hit false fd a b one two := ⟨fun h => (by cases h), fun h => absurd h.2.1 h2⟩
theorem Hit.yes {a b one two : List Int} (h1 : a = b) (h2 : ¬ one = two) : Hit true false a b one two := ⟨fun _ => ⟨rfl, h1, h2⟩, fun _ => rfl⟩
/-! ### the walk -/
theorem pair_free {w : World} {g : Nat} {t : TypeId} {a b : Value} (h : w.heap[g]? = some (.cells #[a, b] t (0, 0))) (j : Nat) : w.frozen? ⟨g, j, none⟩ = false := by
  simp [World.frozen?, h]
set_option maxHeartbeats 4000000 in
set_option maxRecDepth 100000 in
theorem clash_apart {x y p q : List (List Int)} {I : Nat} (H : Pairs x y p q I) (A3 : Option Addr) (c3 : Nat) (A4 : Option Addr) (c4 : Nat) (A5 : Option Addr) (c5 : Nat) (A6 : Option Addr) (c6 : Nat) (lo hi a : Nat) (w : World) (h2 : lo < hi) (h3 : hi ≤ 1048576) (h4 : a < p.length) (h5 : a < q.length)
    (r5 : Kd.C (Kd.slice 5 (Kd.int .u8)) w A5 p.length p) (r6 : Kd.C (Kd.slice 5 (Kd.int .u8)) w A6 q.length q) (c2 : (I : Int) + (x.length : Int) - 1 < (lo : Int) ∨ (hi : Int) - 1 < (I : Int)) :
    Calls Tryd.prog 25 #[.int .i64 lo, .int .i64 hi, .int .i64 I, .slice A3 x.length c3, .slice A4 y.length c4, .slice A5 p.length c5, .slice A6 q.length c6, .int .i64 a] w fun e w' => ∃ v3 v4, e = .returned (.tuple #[.agg #[.slice none 0 0, .slice none 0 0], .bool false, v3, v4, .int .i64 ((a + 1 : Nat) : Int)]) ∧ SL w' v3 (rd_L1 p (a : Nat)) ∧ SL w' v4 (rd_L1 q (a : Nat)) ∧ Below w.heap.size w w' := by
  have hx1 := H.hx
  have hI1 := H.hI
  have hp1 := H.pl
  obtain ⟨J, hJ⟩ : ∃ J : Int, J = (I : Int) + (x.length : Int) - 1 := ⟨_, rfl⟩
  have hwJ := Aside0.mk (show wrap64 (wrap64 ((I : Int) + (x.length : Int)) - 1) = J by rw [hJ, w64 (n := (I : Int) + (x.length : Int)) (by omega) (by omega), w64 (by omega) (by omega)])
  have hwH := Aside0.mk (show wrap64 ((hi : Int) - 1) = (hi : Int) - 1 from w64 (by omega) (by omega))
  have hwA := Aside0.mk (show wrap64 ((a : Int) + 1) = ((a + 1 : Nat) : Int) by rw [w64 (by omega) (by omega)]; rfl)
  obtain ⟨ad5, B5, b5, e5, hx5, hl5, hC5⟩ := at_L1 r5 (a : Int) (by omega) (by omega)
  cases e5
  obtain ⟨ad6, B6, b6, e6, hx6, hl6, hC6⟩ := at_L1 r6 (a : Int) (by omega) (by omega)
  cases e6
  rw [Int.toNat_natCast] at hx5 hx6
  have S5 := Aside0.mk (show SL w (.slice B5 (rd_L1 p (a : Nat)).length b5) (rd_L1 p (a : Nat)) from ⟨B5, b5, rfl, hl5, hC5⟩)
  have S6 := Aside0.mk (show SL w (.slice B6 (rd_L1 q (a : Nat)).length b6) (rd_L1 q (a : Nat)) from ⟨B6, b6, rfl, hl6, hC6⟩)
  have L1 := Aside0.mk ((Below.refl w.heap.size w).alloc (Nat.le_refl _) (.cells #[.slice none 0 0, .slice none 0 0] 42))
  have N1 : (w.alloc (.cells #[.slice none 0 0, .slice none 0 0] 42)).heap[w.heap.size]? = some (.cells #[.slice none 0 0, .slice none 0 0] 42) := heap_alloc_new w _
  rw [← hJ] at c2
  have p1 : (0 ≤ (a : Int)) = True := eq_true (by omega)
  have p2 : ((a : Int) < (p.length : Int)) = True := eq_true (by omega)
  have p3 : ((a : Int) < (q.length : Int)) = True := eq_true (by omega)
  replace hx5 := Aside0.mk ((L1.out.cell (World.block_lt_of_cell? _ _ hx5)).trans hx5)
  replace hx6 := Aside0.mk ((L1.out.cell (World.block_lt_of_cell? _ _ hx6)).trans hx6)
  clear r5 r6 hJ hC5 hC6
  by_cases c1 : J < (lo : Int)
  · have b1 : decide (J < (lo : Int)) = true := decide_eq_true c1
    clear c1 c2 hl5 hl6 h4 h5 h2 h3 hx1 hI1 hp1
    replace hwJ := hwJ.out
    replace hwH := hwH.out
    go_enter Tryd.func25, Tryd.ntmps25

    go_wp2
    have hx5' := hx5.out
    have hx6' := hx6.out
    obtain ⟨g0, g1⟩ := pair_cells N1
    have f0 := pair_free N1 0
    have f1 := pair_free N1 1
    go_region
    have N2 := blk_drew N1
    have L2 := below_drew1 L1.out
    have T5 := (S5.out.below L1.out).below (below_drew (Below.refl _ _))
    have T6 := (S6.out.below L1.out).below (below_drew (Below.refl _ _))
    clear hx5' hx6' g0 g1 f0 f1 N1 L1 S5 S6 hx5 hx6
    go_wp2
    refine bodyPost_ret (results_list (rs := [.cell 16 42, .tmp 17, .tmp 18, .tmp 19, .tmp 20]) rfl (by simp) (.cell w.heap.size 42 #[.slice none 0 0, .slice none 0 0] (0, 0) _ rfl N2 Tryd.underlying42 rfl (by kernel_rfl) (.tmp (.tmp (.tmp (.tmp .nil)))))) rfl ?_
    rw [← hwA.out]
    exact ⟨_, _, rfl, T5, T6, L2⟩
  · have b1 : decide (J < (lo : Int)) = false := decide_eq_false c1
    have b2 : decide ((hi : Int) - 1 < (I : Int)) = true := decide_eq_true (c2.resolve_left c1)
    clear c1 c2 hl5 hl6 h4 h5 h2 h3 hx1 hI1 hp1
    replace hwJ := hwJ.out
    replace hwH := hwH.out
    go_enter Tryd.func25, Tryd.ntmps25

    go_wp2
    have hx5' := hx5.out
    have hx6' := hx6.out
    obtain ⟨g0, g1⟩ := pair_cells N1
    have f0 := pair_free N1 0
    have f1 := pair_free N1 1
    go_region
    have N2 := blk_drew N1
    have L2 := below_drew1 L1.out
    have T5 := (S5.out.below L1.out).below (below_drew (Below.refl _ _))
    have T6 := (S6.out.below L1.out).below (below_drew (Below.refl _ _))
    clear hx5' hx6' g0 g1 f0 f1 N1 L1 S5 S6 hx5 hx6
    go_wp2
    refine bodyPost_ret (results_list (rs := [.cell 16 42, .tmp 17, .tmp 18, .tmp 19, .tmp 20]) rfl (by simp) (.cell w.heap.size 42 #[.slice none 0 0, .slice none 0 0] (0, 0) _ rfl N2 Tryd.underlying42 rfl (by kernel_rfl) (.tmp (.tmp (.tmp (.tmp .nil)))))) rfl ?_
    rw [← hwA.out]
    exact ⟨_, _, rfl, T5, T6, L2⟩

set_option maxHeartbeats 4000000 in
set_option maxRecDepth 100000 in
theorem clash_leaf {x y p q : List (List Int)} {I : Nat} (H : Pairs x y p q I) (A3 : Option Addr) (c3 : Nat) (A4 : Option Addr) (c4 : Nat) (A5 : Option Addr) (c5 : Nat) (A6 : Option Addr) (c6 : Nat) (lo hi a : Nat) (w : World) (h2 : lo < hi) (h3 : hi ≤ 1048576)
    (r3 : Kd.C (Kd.slice 5 (Kd.int .u8)) w A3 x.length x) (r4 : Kd.C (Kd.slice 5 (Kd.int .u8)) w A4 y.length y) (c2 : ¬ ((I : Int) + (x.length : Int) - 1 < (lo : Int) ∨ (hi : Int) - 1 < (I : Int))) (c3' : hi - lo = 1) :
    Calls Tryd.prog 25 #[.int .i64 lo, .int .i64 hi, .int .i64 I, .slice A3 x.length c3, .slice A4 y.length c4, .slice A5 p.length c5, .slice A6 q.length c6, .int .i64 a] w fun e w' => ∃ v3 v4, e = .returned (.tuple #[.agg #[.slice none 0 0, .slice none 0 0], .bool false, v3, v4, .int .i64 (a : Int)]) ∧ SL w' v3 (rd_L1 x ((lo - I : Nat) : Int)) ∧ SL w' v4 (rd_L1 y ((lo - I : Nat) : Int)) ∧ Below w.heap.size w w' := by
  have hx1 := H.hx
  have hI1 := H.hI
  have hxy := H.xy
  obtain ⟨J, hJ⟩ : ∃ J : Int, J = (I : Int) + (x.length : Int) - 1 := ⟨_, rfl⟩
  have hwJ := Aside0.mk (show wrap64 (wrap64 ((I : Int) + (x.length : Int)) - 1) = J by rw [hJ, w64 (n := (I : Int) + (x.length : Int)) (by omega) (by omega), w64 (by omega) (by omega)])
  have hwH := Aside0.mk (show wrap64 ((hi : Int) - 1) = (hi : Int) - 1 from w64 (by omega) (by omega))
  have hwD := Aside0.mk (show wrap64 ((hi : Int) - (lo : Int)) = 1 by rw [w64 (by omega) (by omega)]; omega)
  obtain ⟨d, hd⟩ : ∃ d : Nat, d = lo - I := ⟨_, rfl⟩
  have hwL := Aside0.mk (show wrap64 ((lo : Int) - (I : Int)) = (d : Int) by rw [w64 (by omega) (by omega)]; omega)
  rw [← hd]
  obtain ⟨ad5, B5, b5, e5, hx5, hl5, hC5⟩ := at_L1 r3 (d : Int) (by omega) (by omega)
  cases e5
  obtain ⟨ad6, B6, b6, e6, hx6, hl6, hC6⟩ := at_L1 r4 (d : Int) (by omega) (by omega)
  cases e6
  rw [Int.toNat_natCast] at hx5 hx6
  have S5 := Aside0.mk (show SL w (.slice B5 (rd_L1 x (d : Nat)).length b5) (rd_L1 x (d : Nat)) from ⟨B5, b5, rfl, hl5, hC5⟩)
  have S6 := Aside0.mk (show SL w (.slice B6 (rd_L1 y (d : Nat)).length b6) (rd_L1 y (d : Nat)) from ⟨B6, b6, rfl, hl6, hC6⟩)
  have L1 := Aside0.mk ((Below.refl w.heap.size w).alloc (Nat.le_refl _) (.cells #[.slice none 0 0, .slice none 0 0] 42))
  have N1 : (w.alloc (.cells #[.slice none 0 0, .slice none 0 0] 42)).heap[w.heap.size]? = some (.cells #[.slice none 0 0, .slice none 0 0] 42) := heap_alloc_new w _
  rw [← hJ] at c2
  have p1 : (0 ≤ (d : Int)) = True := eq_true (by omega)
  have p2 : ((d : Int) < (x.length : Int)) = True := eq_true (by omega)
  have p3 : ((d : Int) < (y.length : Int)) = True := eq_true (by omega)
  replace hx5 := Aside0.mk ((L1.out.cell (World.block_lt_of_cell? _ _ hx5)).trans hx5)
  replace hx6 := Aside0.mk ((L1.out.cell (World.block_lt_of_cell? _ _ hx6)).trans hx6)
  have b1 : decide (J < (lo : Int)) = false := decide_eq_false (by omega)
  have b2 : decide ((hi : Int) - 1 < (I : Int)) = false := decide_eq_false (by omega)
  clear r3 r4 hJ hC5 hC6 hd c2 c3' hl5 hl6 h2 h3 hx1 hI1 hxy
  replace hwJ := hwJ.out
  replace hwH := hwH.out
  replace hwD := hwD.out
  replace hwL := hwL.out
  go_enter Tryd.func25, Tryd.ntmps25

  go_wp2
  have hx5' := hx5.out
  have hx6' := hx6.out
  obtain ⟨g0, g1⟩ := pair_cells N1
  have f0 := pair_free N1 0
  have f1 := pair_free N1 1
  go_region
  have N2 := blk_drew N1
  have L2 := below_drew1 L1.out
  have T5 := (S5.out.below L1.out).below (below_drew (Below.refl _ _))
  have T6 := (S6.out.below L1.out).below (below_drew (Below.refl _ _))
  clear hx5' hx6' g0 g1 f0 f1 N1 L1 S5 S6 hx5 hx6
  go_wp2
  refine bodyPost_ret (results_list (rs := [.cell 16 42, .tmp 17, .tmp 18, .tmp 19, .tmp 20]) rfl (by simp) (.cell w.heap.size 42 #[.slice none 0 0, .slice none 0 0] (0, 0) _ rfl N2 Tryd.underlying42 rfl (by kernel_rfl) (.tmp (.tmp (.tmp (.tmp .nil)))))) rfl ?_
  exact ⟨_, _, rfl, T5, T6, L2⟩

def clash_end.T17 : Bool × List (List Nat × List Nat) := (true, [([], []), ([], []), ([], []), ([], []), ([2, 3], [2, 3]), ([], []), ([], []), ([5, 6, 4], [5, 6]), ([], []), ([0, 7, 0], [0]), ([1, 9, 0, 1, 9], [1]), ([4, 10, 0, 1, 2, 3, 4, 9, 10], [4]), ([7, 11, 0, 1, 2, 3, 4, 5, 6, 7, 9, 10, 11], [7]), ([8, 12, 0, 1, 2, 3, 4, 5, 6, 7, 8, 9, 10, 11, 12], [8])])
def clash_end.B17 : List Nat := [0, 0, 0, 0, 12, 0, 0, 124, 0, 253, 767, 1791, 3839, 8191]
theorem clash_end.tab17 : rtab .any (opsOf Tryd.f25 17) = clash_end.T17 := by kernel_rfl
theorem clash_end.bits17 : waitsOk clash_end.T17.2 clash_end.B17 = true := by kernel_rfl
set_option maxHeartbeats 8000000 in
set_option maxRecDepth 100000 in
theorem clash_any {x y p q : List (List Int)} {I : Nat} (H : Pairs x y p q I) (A3 : Option Addr) (c3 : Nat) (A4 : Option Addr) (c4 : Nat) (A5 : Option Addr) (c5 : Nat) (A6 : Option Addr) (c6 : Nat) : ∀ (f lo hi a : Nat) (w : World), hi - lo ≤ f → lo < hi → hi ≤ 1048576 → a + cntW f lo hi I ((I : Int) + x.length - 1) ≤ p.length → a + cntW f lo hi I ((I : Int) + x.length - 1) ≤ q.length → Kd.C (Kd.slice 5 (Kd.int .u8)) w A3 x.length x → Kd.C (Kd.slice 5 (Kd.int .u8)) w A4 y.length y → Kd.C (Kd.slice 5 (Kd.int .u8)) w A5 p.length p → Kd.C (Kd.slice 5 (Kd.int .u8)) w A6 q.length q →
    Calls Tryd.prog 25 #[.int .i64 lo, .int .i64 hi, .int .i64 I, .slice A3 x.length c3, .slice A4 y.length c4, .slice A5 p.length c5, .slice A6 q.length c6, .int .i64 a] w fun e w' => ∃ v0 v1 v3 v4, e = .returned (.tuple #[.agg #[v0, v1], .bool (clashW f x y p q I lo hi a).2.2, v3, v4, .int .i64 ((a + cntW f lo hi I ((I : Int) + x.length - 1) : Nat) : Int)]) ∧ SL w' v0 (clashW f x y p q I lo hi a).1 ∧ SL w' v1 (clashW f x y p q I lo hi a).2.1 ∧ SL w' v3 (mdW f x I lo hi (p.drop a)) ∧ SL w' v4 (mdW f y I lo hi (q.drop a)) ∧ Below w.heap.size w w' := by
  intro f
  induction f with
  | zero => intro lo hi a w h1 h2; omega
  | succ f ih =>
    intro lo hi a w h1 h2 h3 h4 h5 r3 r4 r5 r6
    by_cases c2 : (I : Int) + (x.length : Int) - 1 < (lo : Int) ∨ (hi : Int) - 1 < (I : Int)
    · obtain ⟨hc, hma, hmb, hcl⟩ := apart_step H f lo hi a c2
      rw [hc] at h4 h5 ⊢
      rw [hma, hmb, hcl]
      refine (clash_apart H A3 c3 A4 c4 A5 c5 A6 c6 lo hi a w h2 h3 (by omega) (by omega) r5 r6 c2).mono ?_
      rintro e w' ⟨v3, v4, rfl, s3, s4, l⟩
      exact ⟨_, _, v3, v4, rfl, SL.nil _, SL.nil _, s3, s4, l⟩
    by_cases c3' : hi - lo = 1
    · obtain ⟨hc, hma, hmb, hcl⟩ := leaf_step H f lo hi a c2 c3'
      rw [hc, hma, hmb, hcl, Nat.add_zero]
      refine (clash_leaf H A3 c3 A4 c4 A5 c5 A6 c6 lo hi a w h2 h3 r3 r4 c2 c3').mono ?_
      rintro e w' ⟨v3, v4, rfl, s3, s4, l⟩
      exact ⟨_, _, v3, v4, rfl, SL.nil _, SL.nil _, s3, s4, l⟩
    have k1 := halfW_lt (hi - lo) (by omega)
    have k2 := halfW_pos (hi - lo)
    obtain ⟨m, hm⟩ : ∃ m, m = lo + halfW (hi - lo) := ⟨_, rfl⟩
    obtain ⟨n1, hn1⟩ : ∃ n1, n1 = cntW f lo m I ((I : Int) + x.length - 1) := ⟨_, rfl⟩
    obtain ⟨hc, hma, hmb, hcl⟩ := node_step H f lo hi a c2 c3' hm hn1
    have m1 : lo < m := by omega
    have m2 : m < hi := by omega
    obtain ⟨n2, hn2⟩ : ∃ n2, n2 = cntW f m hi I ((I : Int) + x.length - 1) := ⟨_, rfl⟩
    rw [← hn2] at hc
    rw [hc] at h4 h5 ⊢
    obtain ⟨la1, lb1, ba1, bb1, -⟩ := clash_told H f lo m a (by omega) m1 (by omega) (by omega) (by omega)
    obtain ⟨la2, lb2, ba2, bb2, -⟩ := clash_told H f m hi (a + n1) (by omega) m2 h3 (by omega) (by omega)
    have ih1 := fun w => ih lo m a w (by omega) m1 (by omega) (by omega) (by omega)
    have ih2 := fun w => ih m hi (a + n1) w (by omega) m2 h3 (by omega) (by omega)
    rw [← hn1] at ih1
    rw [← hn2] at ih2
    rw [hma, hmb, hcl]
    obtain ⟨⟨C1, D1, F1⟩, e1⟩ : ∃ z, z = clashW f x y p q I lo m a := ⟨_, rfl⟩
    obtain ⟨⟨C2, D2, F2⟩, e2⟩ : ∃ z, z = clashW f x y p q I m hi (a + n1) := ⟨_, rfl⟩
    rw [← e1] at ih1 ⊢
    rw [← e2] at ih2 ⊢
    dsimp only at ih1 ih2 ⊢
    generalize mdW f x I lo m (p.drop a) = va1 at la1 ba1 ih1 ⊢
    generalize mdW f y I lo m (q.drop a) = vb1 at lb1 bb1 ih1 ⊢
    generalize mdW f x I m hi (p.drop (a + n1)) = va2 at la2 ba2 ih2 ⊢
    generalize mdW f y I m hi (q.drop (a + n1)) = vb2 at lb2 bb2 ih2 ⊢
    obtain ⟨⟨JC, JD, JF⟩, hJW⟩ : ∃ z, z = joinC (if F1 = true then (C1, D1, F1) else (C2, D2, F2)) va1 va2 vb1 vb2 := ⟨_, rfl⟩
    rw [← hJW]
    dsimp only
    replace hJW := Aside0.mk hJW
    obtain ⟨ka, Ha⟩ := (refnode_ev va1 va2 (by omega) (by omega) ba1 ba2).rounds
    obtain ⟨kb, Hb⟩ := (refnode_ev vb1 vb2 (by omega) (by omega) bb1 bb2).rounds
    obtain ⟨kh, Hh⟩ := (half_ev (hi - lo) (by omega) (by omega)).rounds
    have hp1 := H.pl
    have hI1 := H.hI
    have hx1 := H.hx
    obtain ⟨J, hJ⟩ : ∃ J : Int, J = (I : Int) + (x.length : Int) - 1 := ⟨_, rfl⟩
    have hwJ := Aside0.mk (show wrap64 (wrap64 ((I : Int) + (x.length : Int)) - 1) = J by rw [hJ, w64 (n := (I : Int) + (x.length : Int)) (by omega) (by omega), w64 (by omega) (by omega)])
    have hwH := Aside0.mk (show wrap64 ((hi : Int) - 1) = (hi : Int) - 1 from w64 (by omega) (by omega))
    obtain ⟨d, hd⟩ : ∃ d : Nat, d = hi - lo := ⟨_, rfl⟩
    have hwD := Aside0.mk (show wrap64 ((hi : Int) - (lo : Int)) = (d : Int) by rw [w64 (by omega) (by omega)]; omega)
    have hwM := Aside0.mk (show wrap64 ((lo : Int) + ((halfW (hi - lo) : Nat) : Int)) = (m : Int) by rw [w64 (by omega) (by omega)]; omega)
    rw [← hd] at Hh hwM
    have b1 : decide (J < (lo : Int)) = false := decide_eq_false (by omega)
    have b2 : decide ((hi : Int) - 1 < (I : Int)) = false := decide_eq_false (by omega)
    have b3 : ((d : Int) == 1) = false := beq_eq_false_iff_ne.mpr (by omega)
    replace ih1 := Aside0.mk ih1
    replace ih2 := Aside0.mk ih2
    replace Ha := Aside0.mk Ha
    replace Hb := Aside0.mk Hb
    replace Hh := Aside0.mk Hh
    have HX := Aside0.mk r3
    have HY := Aside0.mk r4
    have HP := Aside0.mk r5
    have HQ := Aside0.mk r6
    have HLA := Aside0.mk (And.intro (And.intro la1 la2) (And.intro lb1 lb2))
    have L1 := Aside0.mk ((Below.refl w.heap.size w).alloc (Nat.le_refl _) (.cells #[.slice none 0 0, .slice none 0 0] 42))
    have N1 := Aside0.mk (show Pair2 (w.alloc (.cells #[.slice none 0 0, .slice none 0 0] 42)) w.heap.size (.slice none 0 0) (.slice none 0 0) from ⟨heap_alloc_new w _, ⟨_, _, _, rfl⟩, ⟨_, _, _, rfl⟩⟩)
    clear ih r3 r4 r5 r6 la1 la2 lb1 lb2 ba1 ba2 bb1 bb2 hc hma hmb hcl e1 e2 hn1 hn2 k1 k2 hm hd c2 c3' h1 h2 h3 h4 h5 m1 m2 hp1 hI1 hx1 hJ
    replace hwJ := hwJ.out
    replace hwH := hwH.out
    replace hwD := hwD.out
    replace hwM := hwM.out
    go_enter Tryd.func25, Tryd.ntmps25
    go_wp2_with fail
    refine (casketref20_Half.calls kh _ _ _ Hh.out).mono ?_
    rintro e w2 ⟨rfl, ⟨nd, rfl⟩⟩
    have L2 := Aside0.mk (pw_below_drewN L1.out nd)
    have N2 := Aside0.mk (N1.out.below (pw_below_drewN (Below.refl (w.alloc (.cells #[.slice none 0 0, .slice none 0 0] 42)).heap.size _) nd) (by simp))
    generalize World.drewN _ nd = w2 at L2 N2 ⊢
    clear L1 N1 hwJ hwH hwD b1 b2 b3
    go_wp2_with fail
    refine (ih1.out w2 (Kd.C_below HX.out L2.out) (Kd.C_below HY.out L2.out) (Kd.C_below HP.out L2.out) (Kd.C_below HQ.out L2.out)).mono ?_
    rintro e w3 ⟨v0, v1, v3, v4, rfl, s0, s1, s3, s4, l3⟩
    obtain ⟨A0', k0', c0', rfl⟩ := s0.is
    obtain ⟨A1', k1', c1', rfl⟩ := s1.is
    have N3 := Aside0.mk (N2.out.below l3 N2.out.lt)
    have L3 := Aside0.mk (below_step L2.out l3)
    replace s0 := Aside0.mk s0
    replace s1 := Aside0.mk s1
    replace s3 := Aside0.mk s3
    replace s4 := Aside0.mk s4
    have M3 : (w3.alloc (.cells #[.slice none 0 0, .slice none 0 0] 42)).heap[w3.heap.size]? = some (.cells #[.slice none 0 0, .slice none 0 0] 42) := heap_alloc_new w3 _
    obtain ⟨g0, g1⟩ := pair_cells M3
    have f0 := pair_free M3 0
    have f1 := pair_free M3 1
    clear l3 L2 N2 M3
    go_wp2_with fail
    have N16 := Aside0.mk (N3.out.below (boxed_below w3 (.slice A0' k0' c0') (.slice A1' k1' c1')) N3.out.lt)
    have N23 := Aside0.mk (boxed_new w3 (u := .slice A0' k0' c0') (v := .slice A1' k1' c1') ⟨_, _, _, rfl⟩ ⟨_, _, _, rfl⟩)
    have L4 := Aside0.mk (below_step L3.out (boxed_below w3 (.slice A0' k0' c0') (.slice A1' k1' c1')))
    have t0 := Aside0.mk (s0.out.below (boxed_below w3 (.slice A0' k0' c0') (.slice A1' k1' c1')))
    have t1 := Aside0.mk (s1.out.below (boxed_below w3 (.slice A0' k0' c0') (.slice A1' k1' c1')))
    have t3 := Aside0.mk (s3.out.below (boxed_below w3 (.slice A0' k0' c0') (.slice A1' k1' c1')))
    have t4 := Aside0.mk (s4.out.below (boxed_below w3 (.slice A0' k0' c0') (.slice A1' k1' c1')))
    have hne := N3.out.lt
    have hge := Aside0.mk (below_size L3.out)
    obtain ⟨g23, hg23⟩ : ∃ g, g = w3.heap.size := ⟨_, rfl⟩
    rw [← hg23] at N23 hne hge ⊢
    clear hg23 g0 g1 f0 f1 s0 s1 s3 s4 N3 L3
    unfold boxed at N16 N23 L4 t0 t1 t3 t4
    generalize w3.alloc (.cells #[.slice A0' k0' c0', .slice A1' k1' c1'] 42) = w4 at N16 N23 L4 t0 t1 t3 t4 ⊢
    refine (ih2.out w4 (Kd.C_below HX.out L4.out) (Kd.C_below HY.out L4.out) (Kd.C_below HP.out L4.out) (Kd.C_below HQ.out L4.out)).mono ?_
    clear hwM
    rintro e w5 ⟨u0, u1, u3, u4, rfl, z0, z1, z3, z4, l5⟩
    obtain ⟨A2', k2', c2', rfl⟩ := z0.is
    obtain ⟨A5', k5', c5', rfl⟩ := z1.is
    have M5 : (w5.alloc (.cells #[.slice none 0 0, .slice none 0 0] 42)).heap[w5.heap.size]? = some (.cells #[.slice none 0 0, .slice none 0 0] 42) := heap_alloc_new w5 _
    obtain ⟨g0, g1⟩ := pair_cells M5
    have f0 := pair_free M5 0
    have f1 := pair_free M5 1
    have l6 := boxed_below w5 (.slice A2' k2' c2') (.slice A5' k5' c5')
    have P16 := Aside0.mk ((N16.out.below l5 N16.out.lt).below l6 (N16.out.below l5 N16.out.lt).lt)
    have P23 := Aside0.mk ((N23.out.below l5 N23.out.lt).below l6 (N23.out.below l5 N23.out.lt).lt)
    have P28 := Aside0.mk (boxed_new w5 (u := .slice A2' k2' c2') (v := .slice A5' k5' c5') ⟨_, _, _, rfl⟩ ⟨_, _, _, rfl⟩)
    have L6 := Aside0.mk (below_step (below_step L4.out l5) l6)
    have hne2 := (N23.out.below l5 N23.out.lt).lt
    have s0 := Aside0.mk ((t0.out.below l5).below l6)
    have s1 := Aside0.mk ((t1.out.below l5).below l6)
    have s3 := Aside0.mk ((t3.out.below l5).below l6)
    have s4 := Aside0.mk ((t4.out.below l5).below l6)
    have r0 := Aside0.mk (z0.below l6)
    have r1 := Aside0.mk (z1.below l6)
    have r3 := Aside0.mk (z3.below l6)
    have r4 := Aside0.mk (z4.below l6)
    clear M5 l5 l6 z0 z1 z3 z4 t0 t1 t3 t4 L4 N16 N23
    go_upto_if 115 with (fail)
    obtain ⟨g28, hg28⟩ : ∃ g, g = w5.heap.size := ⟨_, rfl⟩
    rw [← hg28] at P28 hne2 ⊢
    clear hg28 g0 g1 f0 f1
    unfold boxed at P16 P23 P28 L6 s0 s1 s3 s4 r0 r1 r3 r4
    generalize w5.alloc (.cells #[.slice A2' k2' c2', .slice A5' k5' c5'] 42) = w6 at P16 P23 P28 L6 s0 s1 s3 s4 r0 r1 r3 r4 ⊢
    have hne3 : g28 ≠ g23 := by have := hne2; omega
    have hne4 : w.heap.size ≠ g23 := by have := hne; omega
    clear hne hne2
    go_cut [24] (fun v24 wc => ∃ (fd : Bool) (cA cB : List Int) (V0 V1 : Value), v24 = .bool fd ∧ Aside0 ((cA, cB, fd) = if F1 = true then (C1, D1, F1) else (C2, D2, F2)) ∧ Aside0 (Pair2 wc g23 V0 V1) ∧ Aside0 (SL wc V0 cA ∧ SL wc V1 cB) ∧ Aside0 (SL wc v3 va1 ∧ SL wc v4 vb1 ∧ SL wc u3 va2 ∧ SL wc u4 vb2) ∧ Aside0 (Pair2 wc w.heap.size (.slice none 0 0) (.slice none 0 0)) ∧ Aside0 (Below w.heap.size w wc))
    case first =>
      cases F1 with
      | true =>
        go_wp2
        go_meet
        case rel => exact ⟨true, C1, D1, _, _, rfl, ⟨rfl⟩, P23, ⟨s0.out, s1.out⟩, ⟨s3.out, s4.out, r3.out, r4.out⟩, P16, L6⟩
      | false =>
        obtain ⟨e0, e1⟩ := P23.out.cells
        obtain ⟨e2, e3⟩ := P28.out.cells
        have f0 := P23.out.free 0
        have f1 := P23.out.free 1
        have hne5 := Ne.symm hne3
        go_wp2
        go_meet
        case rel => exact ⟨F2, C2, D2, .slice A2' k2' c2', .slice A5' k5' c5', rfl, ⟨rfl⟩, ⟨P23.out.put ⟨_, _, _, rfl⟩ ⟨_, _, _, rfl⟩⟩, ⟨r0.out.set2 P23.out ⟨_, _, _, rfl⟩, r1.out.set2 P23.out ⟨_, _, _, rfl⟩⟩, ⟨s3.out.set2 P23.out ⟨_, _, _, rfl⟩, s4.out.set2 P23.out ⟨_, _, _, rfl⟩, r3.out.set2 P23.out ⟨_, _, _, rfl⟩, r4.out.set2 P23.out ⟨_, _, _, rfl⟩⟩, ⟨P16.out.other2 hne4 _ _⟩, ⟨(L6.out.setCell (p := ⟨g23, 0, none⟩) hge.out _).setCell (p := ⟨g23, 1, none⟩) hge.out _⟩⟩
    case rest =>
      clear P16 P23 P28 L6 s0 s1 s3 s4 r0 r1 r3 r4
      obtain ⟨fd, cA, cB, V0, V1, rfl, hCF, P23, S0, S3, P16, L6⟩ := hcut
      obtain ⟨B1, d1, eB0, -⟩ := S3.out.1
      subst eB0
      obtain ⟨B2, d2, eB1, -⟩ := S3.out.2.1
      subst eB1
      obtain ⟨B3, d3, eB2, -⟩ := S3.out.2.2.1
      subst eB2
      obtain ⟨B4, d4, eB3, -⟩ := S3.out.2.2.2
      subst eB3
      have HBc := Aside0.mk (Below.refl wc.heap.size wc)
      go_upto_region 14 with (first | ((with_reducible refine gate_dst (N := 118) rfl ?_); refine Kd.R_lit (Kd.int .u8) (w0 := wc) wc.heap.size 5 ?hg (N := 118) ?hd (xs := ([1] : List Int)) (inner := [.int .u8 1]) (ok := fun _ => True) (okp := fun _ => True) ?hr ?hp (fun _ hk => hk) trivial HBc.out (below_size HBc.out) (by simp) ?_; (case hd => rfl); (case hg => rfl); (case hr => first | (go_simp; done) | (go_simp; rfl)); (case hp => exact (Reps.one rfl (Reps.none _ _))); intro b1 x1 ho hb hg_ hnew_; clear hg_ hnew_ HBc; have HBc := Aside0.mk hb; have HO1 := Aside0.mk ho; clear ho hb) | ((with_reducible refine gate_builtin (b := .append) (xs := #[.tmp 118, .tmp 119]) rfl ?_); at_builtin; refine Kd.R_append_rows (Kd.int .u8) (w0 := wc) wc.heap.size rfl (.tmp 118) (.tmp 119) 31 5 (.int .u8 0) 1 rfl Tryd.underlying31 info5 rfl (by decide) (by decide) b1 ([1]) va1 _ _ _ (fun _ => True) (fun _ => False) rfl rfl HO1.out (SL.C (S3.out.1.below HBc.out)) (fun _ _ h => h) (fun _ h => h.elim) (fun _ _ => trivial) HBc.out (below_size HBc.out) (by have := HLA.out; simp only [List.length_append, List.length_cons, List.length_nil]; omega) ?_; intro b2 x2 ho hb hg hat; clear hg hat HBc HO1; have HBc := Aside0.mk hb; have HO1 := Aside0.mk ho; clear ho hb) | ((with_reducible refine gate_builtin (b := .append) (xs := #[.tmp 120, .tmp 121]) rfl ?_); at_builtin; refine Kd.R_append_rows (Kd.int .u8) (w0 := wc) wc.heap.size rfl (.tmp 120) (.tmp 121) 31 5 (.int .u8 0) 1 rfl Tryd.underlying31 info5 rfl (by decide) (by decide) b2 ([1] ++ va1) va2 _ _ _ (fun _ => True) (fun _ => False) rfl rfl HO1.out (SL.C (S3.out.2.2.1.below HBc.out)) (fun _ _ h => h) (fun _ h => h.elim) (fun _ _ => trivial) HBc.out (below_size HBc.out) (by have := HLA.out; simp only [List.length_append, List.length_cons, List.length_nil]; omega) ?_; intro b3 x3 ho hb hg hat; clear hg hat HBc HO1; have HBc := Aside0.mk hb; have HO1 := Aside0.mk ho; clear ho hb; have S33 := Aside0.mk (SL.of_R HO1.out); clear HO1; have HBd := Aside0.mk (Below.refl x3.heap.size x3)) | ((with_reducible refine gate_dst (N := 123) rfl ?_); refine Kd.R_lit (Kd.int .u8) (w0 := x3) x3.heap.size 5 ?hg (N := 123) ?hd (xs := ([1] : List Int)) (inner := [.int .u8 1]) (ok := fun _ => True) (okp := fun _ => True) ?hr ?hp (fun _ hk => hk) trivial HBd.out (below_size HBd.out) (by simp) ?_; (case hd => rfl); (case hg => rfl); (case hr => first | (go_simp; done) | (go_simp; rfl)); (case hp => exact (Reps.one rfl (Reps.none _ _))); intro b4 x4 ho hb hg_ hnew_; clear hg_ hnew_ HBd; have HBd := Aside0.mk hb; have HO1 := Aside0.mk ho; clear ho hb) | ((with_reducible refine gate_builtin (b := .append) (xs := #[.tmp 123, .tmp 124]) rfl ?_); at_builtin; refine Kd.R_append_rows (Kd.int .u8) (w0 := x3) x3.heap.size rfl (.tmp 123) (.tmp 124) 31 5 (.int .u8 0) 1 rfl Tryd.underlying31 info5 rfl (by decide) (by decide) b4 ([1]) vb1 _ _ _ (fun _ => True) (fun _ => False) rfl rfl HO1.out (SL.C ((S3.out.2.1.below HBc.out).below HBd.out)) (fun _ _ h => h) (fun _ h => h.elim) (fun _ _ => trivial) HBd.out (below_size HBd.out) (by have := HLA.out; simp only [List.length_append, List.length_cons, List.length_nil]; omega) ?_; intro b5 x5 ho hb hg hat; clear hg hat HBd HO1; have HBd := Aside0.mk hb; have HO1 := Aside0.mk ho; clear ho hb) | ((with_reducible refine gate_builtin (b := .append) (xs := #[.tmp 125, .tmp 126]) rfl ?_); at_builtin; refine Kd.R_append_rows (Kd.int .u8) (w0 := x3) x3.heap.size rfl (.tmp 125) (.tmp 126) 31 5 (.int .u8 0) 1 rfl Tryd.underlying31 info5 rfl (by decide) (by decide) b5 ([1] ++ vb1) vb2 _ _ _ (fun _ => True) (fun _ => False) rfl rfl HO1.out (SL.C ((S3.out.2.2.2.below HBc.out).below HBd.out)) (fun _ _ h => h) (fun _ h => h.elim) (fun _ _ => trivial) HBd.out (below_size HBd.out) (by have := HLA.out; simp only [List.length_append, List.length_cons, List.length_nil]; omega) ?_; intro b6 x6 ho hb hg hat; clear hg hat HBd HO1; have HBd := Aside0.mk hb; have HO1 := Aside0.mk ho; clear ho hb; have S34 := Aside0.mk (SL.of_R HO1.out); clear HO1))
      have HB6 := Aside0.mk (HBc.out.trans (HBd.out.mono (below_size HBc.out)))
      have Q23 := Aside0.mk (P23.out.below HB6.out P23.out.lt)
      have Q16 := Aside0.mk (P16.out.below HB6.out P16.out.lt)
      have L7 := Aside0.mk (below_step L6.out HB6.out)
      have S0' := Aside0.mk (And.intro (S0.out.1.below HB6.out) (S0.out.2.below HB6.out))
      have S3' := Aside0.mk (And.intro (S3.out.1.below HB6.out) (And.intro (S3.out.2.1.below HB6.out) (And.intro (S3.out.2.2.1.below HB6.out) (S3.out.2.2.2.below HB6.out))))
      have S33' := Aside0.mk (S33.out.below HBd.out)
      clear P23 P16 L6 S0 S3 S33 HBc HBd HB6
      obtain ⟨one, hone⟩ : ∃ z, z = [1] ++ va1 ++ va2 := ⟨_, rfl⟩
      obtain ⟨two, htwo⟩ : ∃ z, z = [1] ++ vb1 ++ vb2 := ⟨_, rfl⟩
      rw [← hone] at S33'
      rw [← htwo] at S34
      have hlen1 := Aside0.mk (show one.length ≤ 140737488355328 by rw [hone]; have := HLA.out; simp only [List.length_append, List.length_cons, List.length_nil]; omega)
      replace hone := Aside0.mk hone
      replace htwo := Aside0.mk htwo
      obtain ⟨A33, c33, e33, -⟩ := S33'.out
      subst e33
      obtain ⟨A34, c34, e34, -⟩ := S34.out
      subst e34
      go_cut [144] (fun v144 wd => ∃ bb : Bool, v144 = .bool bb ∧ Aside0 (Hit bb fd (nodeW va1 va2) (nodeW vb1 vb2) one two) ∧ Aside0 (Below x6.heap.size x6 wd))
      case first =>
        cases fd with
        | true =>
          go_wp2
          go_meet
          case rel => exact ⟨false, rfl, ⟨Hit.no1⟩, ⟨Below.refl _ _⟩⟩
        | false =>
          go_wp2_with fail
          refine (casketref20_Node.calls ka B1 d1 va1 B3 d3 va2 (nodeW va1 va2) x6 (SL.C S3'.out.1) S3'.out.1.cap (SL.C S3'.out.2.2.1) S3'.out.2.2.1.cap Ha.out).mono ?_
          rintro e y1 ⟨v7, rfl, O7, l7⟩
          have M1 := Aside0.mk l7
          have O7' := Aside0.mk (SL.of_R O7)
          clear O7 l7
          go_wp2_with fail
          refine (casketref20_Node.calls kb B2 d2 vb1 B4 d4 vb2 (nodeW vb1 vb2) y1 (SL.C (S3'.out.2.1.below M1.out)) S3'.out.2.1.cap (SL.C (S3'.out.2.2.2.below M1.out)) S3'.out.2.2.2.cap Hb.out).mono ?_
          rintro e y2 ⟨v8, rfl, O8, l8⟩
          have M2 := Aside0.mk (below_step M1.out l8)
          have O9 := Aside0.mk (O7'.out.below l8)
          have O8' := Aside0.mk (SL.of_R O8)
          clear O7' O8 l8 M1
          obtain ⟨A7, c7, e7, -⟩ := O9.out
          subst e7
          obtain ⟨A8, c8, e8, -⟩ := O8'.out
          subst e8
          by_cases q4 : nodeW va1 va2 = nodeW vb1 vb2
          · have hs := same13_ev (nodeW va1 va2) (nodeW vb1 vb2) (by rw [nodeW_length]; decide)
            rw [decide_eq_true q4] at hs
            replace q4 := Aside0.mk q4
            obtain ⟨ks, Hs⟩ := hs.rounds
            replace Hs := Aside0.mk Hs
            clear hs
            go_wp2_with fail
            refine (casketlaw20_same.calls ks A7 c7 (nodeW va1 va2) A8 c8 (nodeW vb1 vb2) true y2 (SL.C O9.out) O9.out.cap (SL.C O8'.out) O8'.out.cap Hs.out).mono ?_
            rintro e y3 ⟨rfl, ⟨nd3, rfl⟩⟩
            have M3 := Aside0.mk (pw_below_drewN M2.out nd3)
            generalize y2.drewN nd3 = y3 at M3 ⊢
            clear M2
            by_cases q5 : one = two
            · have hs := same13_ev one two hlen1.out
              rw [decide_eq_true q5] at hs
              replace q5 := Aside0.mk q5
              obtain ⟨kt, Ht⟩ := hs.rounds
              replace Ht := Aside0.mk Ht
              clear hs
              go_wp2_with fail
              refine (casketlaw20_same.calls kt A33 c33 one A34 c34 two true y3 (SL.C (S33'.out.below M3.out)) S33'.out.cap (SL.C (S34.out.below M3.out)) S34.out.cap Ht.out).mono ?_
              rintro e y4 ⟨rfl, ⟨nd4, rfl⟩⟩
              go_wp2
              go_meet
              case rel => exact ⟨false, rfl, ⟨Hit.no2 q5.out⟩, ⟨pw_below_drewN M3.out nd4⟩⟩
            · have hs := same13_ev one two hlen1.out
              rw [decide_eq_false q5] at hs
              replace q5 := Aside0.mk q5
              obtain ⟨kt, Ht⟩ := hs.rounds
              replace Ht := Aside0.mk Ht
              clear hs
              go_wp2_with fail
              refine (casketlaw20_same.calls kt A33 c33 one A34 c34 two false y3 (SL.C (S33'.out.below M3.out)) S33'.out.cap (SL.C (S34.out.below M3.out)) S34.out.cap Ht.out).mono ?_
              rintro e y4 ⟨rfl, ⟨nd4, rfl⟩⟩
              go_wp2
              go_meet
              case rel => exact ⟨true, rfl, ⟨Hit.yes q4.out q5.out⟩, ⟨pw_below_drewN M3.out nd4⟩⟩
          · have hs := same13_ev (nodeW va1 va2) (nodeW vb1 vb2) (by rw [nodeW_length]; decide)
            rw [decide_eq_false q4] at hs
            replace q4 := Aside0.mk q4
            obtain ⟨ks, Hs⟩ := hs.rounds
            replace Hs := Aside0.mk Hs
            clear hs
            go_wp2_with fail
            refine (casketlaw20_same.calls ks A7 c7 (nodeW va1 va2) A8 c8 (nodeW vb1 vb2) false y2 (SL.C O9.out) O9.out.cap (SL.C O8'.out) O8'.out.cap Hs.out).mono ?_
            rintro e y3 ⟨rfl, ⟨nd3, rfl⟩⟩
            go_wp2
            go_meet
            case rel => exact ⟨false, rfl, ⟨Hit.no3 q4.out⟩, ⟨pw_below_drewN M2.out nd3⟩⟩
      case rest =>
        obtain ⟨bb, rfl, hbb, M⟩ := hcut
        have R23 := Aside0.mk (Q23.out.below M.out Q23.out.lt)
        have R16 := Aside0.mk (Q16.out.below M.out Q16.out.lt)
        have L8 := Aside0.mk (below_step L7.out M.out)
        have T0 := Aside0.mk (And.intro (S0'.out.1.below M.out) (S0'.out.2.below M.out))
        have T3 := Aside0.mk (And.intro (S3'.out.1.below M.out) (And.intro (S3'.out.2.1.below M.out) (And.intro (S3'.out.2.2.1.below M.out) (S3'.out.2.2.2.below M.out))))
        have T33 := Aside0.mk (S33'.out.below M.out)
        have T34 := Aside0.mk (S34.out.below M.out)
        clear Q23 Q16 L7 S0' S3' S33' S34 M
        go_upto_if 144 with (fail)
        go_cut [24] (fun v24 wd => ∃ (fd2 : Bool) (cC cD : List Int) (V2 V3 : Value), v24 = .bool fd2 ∧ Aside0 ((cC, cD, fd2) = joinC (cA, cB, fd) va1 va2 vb1 vb2) ∧ Aside0 (Pair2 wd g23 V2 V3) ∧ Aside0 (SL wd V2 cC ∧ SL wd V3 cD) ∧ Aside0 (SL wd (.slice B1 va1.length d1) va1 ∧ SL wd (.slice B2 vb1.length d2) vb1 ∧ SL wd (.slice B3 va2.length d3) va2 ∧ SL wd (.slice B4 vb2.length d4) vb2) ∧ Aside0 (Pair2 wd w.heap.size (.slice none 0 0) (.slice none 0 0)) ∧ Aside0 (Below w.heap.size w wd))
        case first =>
          cases bb with
          | false =>
            go_wp2
            go_meet
            case rel => exact ⟨fd, cA, cB, V0, V1, rfl, ⟨by
              have hno : ¬ (fd = false ∧ nodeW va1 va2 = nodeW vb1 vb2 ∧ ¬ one = two) := fun h => Bool.noConfusion (hbb.out.2 h)
              rw [hone.out, htwo.out] at hno
              rw [joinC, if_neg hno]⟩, R23, T0, T3, R16, L8⟩
          | true =>
            obtain ⟨iV0, iV1⟩ := R23.out.2
            obtain ⟨Z0, zn0, zc0, rfl⟩ := iV0
            obtain ⟨Z1, zn1, zc1, rfl⟩ := iV1
            obtain ⟨e0, e1⟩ := R23.out.cells
            have f0 := R23.out.free 0
            have f1 := R23.out.free 1
            go_wp2
            go_meet
            case rel => exact ⟨true, one, two, .slice A33 one.length c33, .slice A34 two.length c34, rfl, ⟨by
              have hyes : fd = false ∧ nodeW va1 va2 = nodeW vb1 vb2 ∧ ¬ one = two := Iff.mp hbb.out rfl
              rw [hone.out, htwo.out] at hyes
              rw [joinC, if_pos hyes, hone.out, htwo.out]⟩, ⟨R23.out.put ⟨_, _, _, rfl⟩ ⟨_, _, _, rfl⟩⟩, ⟨T33.out.set2 R23.out ⟨_, _, _, rfl⟩, T34.out.set2 R23.out ⟨_, _, _, rfl⟩⟩, ⟨T3.out.1.set2 R23.out ⟨_, _, _, rfl⟩, T3.out.2.1.set2 R23.out ⟨_, _, _, rfl⟩, T3.out.2.2.1.set2 R23.out ⟨_, _, _, rfl⟩, T3.out.2.2.2.set2 R23.out ⟨_, _, _, rfl⟩⟩, ⟨R16.out.other2 hne4 _ _⟩, ⟨(L8.out.setCell (p := ⟨g23, 0, none⟩) hge.out _).setCell (p := ⟨g23, 1, none⟩) hge.out _⟩⟩
        case rest =>
          clear R23 R16 L8 T0 T3 T33 T34 hbb
          obtain ⟨fd2, cC, cD, V2, V3, rfl, hJC, R23, T0, T3, R16, L8⟩ := hcut
          obtain ⟨Z2, z2, eZ2, -⟩ := T0.out.1
          subst eZ2
          obtain ⟨Z3, z3, eZ3, -⟩ := T0.out.2
          subst eZ3
          obtain ⟨hg0, hg1⟩ := R23.out.cells
          go_upto_region 17 with (fail)
          refine start_ (n := 14) (S := fun w' => w'.cell? ⟨g23, 0, none⟩ = some (.slice Z2 cC.length z2) ∧ w'.cell? ⟨g23, 1, none⟩ = some (.slice Z3 cD.length z3)) (ds := []) #[false, false, false, false, false, false, false, false, false, false, false, false, false, false] (by kernel_rfl) rfl rfl ⟨hg0, hg1⟩ (fun hHeld => ?_)
          refine with_tabW clash_end.tab17 clash_end.bits17 (fun HT_ HW_ => ?_)
          have U23 := Aside0.mk (R23.out.below (below_drew (Below.refl wc.heap.size wc)) R23.out.lt)
          have U16 := Aside0.mk (R16.out.below (below_drew (Below.refl wc.heap.size wc)) R16.out.lt)
          have UL := Aside0.mk (below_drew1 L8.out)
          have U0 := Aside0.mk (And.intro (T0.out.1.below (below_drew (Below.refl _ _))) (T0.out.2.below (below_drew (Below.refl _ _))))
          have U3 := Aside0.mk (And.intro (T3.out.1.below (below_drew (Below.refl _ _))) (And.intro (T3.out.2.1.below (below_drew (Below.refl _ _))) (And.intro (T3.out.2.2.1.below (below_drew (Below.refl _ _))) (T3.out.2.2.2.below (below_drew (Below.refl _ _))))))
          clear R23 R16 L8 T0 T3 hg0 hg1
          generalize wc.drew = w4 at U23 U16 UL U0 U3 hHeld ⊢
          refine pure_ (i := 1) (N := some 149) (v := ?_) (a' := ?_) #[false, true, false, false, false, false, false, false, false, false, false, false, false, false] rfl rfl (any_of HT_.out (by kernel_rfl)) (fun _ _ _ h => h) (Or.inl ⟨by rfl, ?_⟩) ?_ ?_
          rotate_left
          · intro w'
            go_simp
            with_reducible rfl
          rotate_left
          · simp only [Act.put, List.setIfInBounds_toArray, List.set_cons_zero, List.set_cons_succ, i64_w, i32_w]
            rfl
          refine pure_ (i := 2) (N := some 150) (v := ?_) (a' := ?_) #[false, true, true, false, false, false, false, false, false, false, false, false, false, false] rfl rfl (any_of HT_.out (by kernel_rfl)) (fun _ _ _ h => h) (Or.inl ⟨by rfl, ?_⟩) ?_ ?_
          rotate_left
          · intro w'
            go_simp
            with_reducible rfl
          rotate_left
          · simp only [Act.put, List.setIfInBounds_toArray, List.set_cons_zero, List.set_cons_succ, i64_w, i32_w]
            rfl
          refine pure_ (i := 3) (N := some 151) (v := ?_) (a' := ?_) #[false, true, true, true, false, false, false, false, false, false, false, false, false, false] rfl rfl (any_of HT_.out (by kernel_rfl)) (fun _ _ _ h => h) (Or.inl ⟨by rfl, ?_⟩) ?_ ?_
          rotate_left
          · intro w'
            go_simp
            with_reducible rfl
          rotate_left
          · simp only [Act.put, List.setIfInBounds_toArray, List.set_cons_zero, List.set_cons_succ, i64_w, i32_w]
            rfl
          refine pure_ (i := 5) (N := some 153) (v := ?_) (a' := ?_) #[false, true, true, true, false, true, false, false, false, false, false, false, false, false] rfl rfl (any_of HT_.out (by kernel_rfl)) (fun _ _ _ h => h) (Or.inl ⟨by rfl, ?_⟩) ?_ ?_
          rotate_left
          · intro w'
            go_simp
            with_reducible rfl
          rotate_left
          · simp only [Act.put, List.setIfInBounds_toArray, List.set_cons_zero, List.set_cons_succ, i64_w, i32_w]
            rfl
          refine pure_ (i := 6) (N := some 154) (v := ?_) (a' := ?_) #[false, true, true, true, false, true, true, false, false, false, false, false, false, false] rfl rfl (any_of HT_.out (by kernel_rfl)) (fun _ _ _ h => h) (Or.inl ⟨by rfl, ?_⟩) ?_ ?_
          rotate_left
          · intro w'
            go_simp
            with_reducible rfl
          rotate_left
          · simp only [Act.put, List.setIfInBounds_toArray, List.set_cons_zero, List.set_cons_succ, i64_w, i32_w]
            rfl
          refine pure_ (i := 8) (N := some 156) (v := ?_) (a' := ?_) #[false, true, true, true, false, true, true, false, true, false, false, false, false, false] rfl rfl (any_of HT_.out (by kernel_rfl)) (fun _ _ _ h => h) (Or.inl ⟨by rfl, ?_⟩) ?_ ?_
          rotate_left
          · intro w'
            go_simp
            with_reducible rfl
          rotate_left
          · simp only [Act.put, List.setIfInBounds_toArray, List.set_cons_zero, List.set_cons_succ, i64_w, i32_w]
            rfl
          refine take_ (i := 0) (N := some 148) (v := ?_) (a' := ?_) #[true, true, true, true, false, true, true, false, true, false, false, false, false, false] rfl rfl (take_ofW HT_.out HW_.out (by kernel_rfl)) (fun _ _ _ h => h) (Or.inl ⟨by rfl, ?_⟩) hHeld ?_ ?_
          rotate_left
          · intro w' hS'
            have hc0 := hS'.1
            have hc1 := hS'.2
            go_simp
            with_reducible rfl
          rotate_left
          · simp only [Act.put, List.setIfInBounds_toArray, List.set_cons_zero, List.set_cons_succ, i64_w, i32_w]
            rfl
          refine one_ (i := 4) (N := some 152) #[true, true, true, true, true, true, true, false, true, false, false, false, false, false] rfl rfl (one_of HT_.out (by kernel_rfl)) (by decide) (fun K hK => ?_)
          refine goes_ Tryd.func21 (by kernel_rfl) rfl #[.slice B1 va1.length d1, .slice B3 va2.length d3] (by rfl) rfl rfl (by (try simp only [List.map_toArray, List.map_cons, List.map_nil]); first | done | rfl) ?_
          with_reducible refine (casketref20_Node.calls ka B1 d1 va1 B3 d3 va2 (nodeW va1 va2) w4 (SL.C U3.out.1) U3.out.1.cap (SL.C U3.out.2.2.1) U3.out.2.2.1.cap Ha.out).mono ?_
          rintro e w5 ⟨v7, rfl, O7, l7⟩
          refine ⟨_, rfl, ?_⟩
          have X23 := Aside0.mk (U23.out.below l7 U23.out.lt)
          have X16 := Aside0.mk (U16.out.below l7 U16.out.lt)
          have XL := Aside0.mk (below_step UL.out l7)
          have X0 := Aside0.mk (And.intro (U0.out.1.below l7) (U0.out.2.below l7))
          have X3 := Aside0.mk (And.intro (U3.out.2.1.below l7) (U3.out.2.2.2.below l7))
          have O7' := Aside0.mk (SL.of_R O7)
          clear U23 U16 UL U0 U3 O7 l7 hHeld
          refine hK.out _ _ X23.out.cells (fun hHeld => ?_)
          clear hK K
          refine norm_ (a' := ?_) ?_ ?_
          rotate_left
          · show Act.put _ (some 152) _ = _
            simp only [Act.put, List.setIfInBounds_toArray, List.set_cons_zero, List.set_cons_succ, i64_w, i32_w]
            rfl
          refine one_ (i := 7) (N := some 155) #[true, true, true, true, true, true, true, true, true, false, false, false, false, false] rfl rfl (one_of HT_.out (by kernel_rfl)) (by decide) (fun K hK => ?_)
          refine goes_ Tryd.func21 (by kernel_rfl) rfl #[.slice B2 vb1.length d2, .slice B4 vb2.length d4] (by rfl) rfl rfl (by (try simp only [List.map_toArray, List.map_cons, List.map_nil]); first | done | rfl) ?_
          with_reducible refine (casketref20_Node.calls kb B2 d2 vb1 B4 d4 vb2 (nodeW vb1 vb2) w5 (SL.C X3.out.1) X3.out.1.cap (SL.C X3.out.2) X3.out.2.cap Hb.out).mono ?_
          rintro e w8 ⟨v8, rfl, O8, l8⟩
          refine ⟨_, rfl, ?_⟩
          have Y23 := Aside0.mk (X23.out.below l8 X23.out.lt)
          have Y16 := Aside0.mk (X16.out.below l8 X16.out.lt)
          have YL := Aside0.mk (below_step XL.out l8)
          have Y0 := Aside0.mk (And.intro (X0.out.1.below l8) (X0.out.2.below l8))
          have O9 := Aside0.mk (O7'.out.below l8)
          have O8' := Aside0.mk (SL.of_R O8)
          clear X23 X16 XL X0 X3 O7' O8 l8 hHeld
          refine hK.out _ _ Y23.out.cells (fun hHeld => ?_)
          clear hK K
          refine norm_ (a' := ?_) ?_ ?_
          rotate_left
          · show Act.put _ (some 155) _ = _
            simp only [Act.put, List.setIfInBounds_toArray, List.set_cons_zero, List.set_cons_succ, i64_w, i32_w]
            rfl
          refine one_ (i := 9) (N := none) #[true, true, true, true, true, true, true, true, true, true, false, false, false, false] rfl rfl (one_of HT_.out (by kernel_rfl)) (by decide) (fun K hK => ?_)
          obtain ⟨e0, e1⟩ := Y16.out.cells
          have f0 := Y16.out.free 0
          have f1 := Y16.out.free 1
          have hne6 := hne4
          have hne7 := Ne.symm hne4
          refine skip_ (w1 := ?_) (by rfl) rfl ?_ ?_
          rotate_left
          · go_simp
            rfl
          have Z16 := Aside0.mk (Y16.out.put (u := .slice Z2 cC.length z2) (v := .slice Z3 cD.length z3) ⟨_, _, _, rfl⟩ ⟨_, _, _, rfl⟩)
          have Z23 := Aside0.mk (Y23.out.other2 (Ne.symm hne4) (.slice Z2 cC.length z2) (.slice Z3 cD.length z3))
          have ZL := Aside0.mk ((YL.out.setCell (p := ⟨w.heap.size, 0, none⟩) (Nat.le_refl _) (.slice Z2 cC.length z2)).setCell (p := ⟨w.heap.size, 1, none⟩) (Nat.le_refl _) (.slice Z3 cD.length z3))
          have ZZ0 := Aside0.mk (Y0.out.1.set2 (u := .slice Z2 cC.length z2) (u' := .slice Z3 cD.length z3) Y16.out ⟨_, _, _, rfl⟩)
          have ZZ1 := Aside0.mk (Y0.out.2.set2 (u := .slice Z2 cC.length z2) (u' := .slice Z3 cD.length z3) Y16.out ⟨_, _, _, rfl⟩)
          have ZZ3 := Aside0.mk (O9.out.set2 (u := .slice Z2 cC.length z2) (u' := .slice Z3 cD.length z3) Y16.out ⟨_, _, _, rfl⟩)
          have ZZ4 := Aside0.mk (O8'.out.set2 (u := .slice Z2 cC.length z2) (u' := .slice Z3 cD.length z3) Y16.out ⟨_, _, _, rfl⟩)
          clear hHeld
          refine hK.out _ _ Z23.out.cells (fun hHeld => ?_)
          clear hK K
          refine pure_ (i := 10) (N := some 17) (v := ?_) (a' := ?_) #[true, true, true, true, true, true, true, true, true, true, true, false, false, false] rfl rfl (any_of HT_.out (by kernel_rfl)) (fun _ _ _ h => h) (Or.inl ⟨by rfl, ?_⟩) ?_ ?_
          rotate_left
          · intro w'
            go_simp
            with_reducible rfl
          rotate_left
          · simp only [Act.put, List.setIfInBounds_toArray, List.set_cons_zero, List.set_cons_succ, i64_w, i32_w]
            rfl
          refine pure_ (i := 11) (N := some 18) (v := ?_) (a' := ?_) #[true, true, true, true, true, true, true, true, true, true, true, true, false, false] rfl rfl (any_of HT_.out (by kernel_rfl)) (fun _ _ _ h => h) (Or.inl ⟨by rfl, ?_⟩) ?_ ?_
          rotate_left
          · intro w'
            go_simp
            with_reducible rfl
          rotate_left
          · simp only [Act.put, List.setIfInBounds_toArray, List.set_cons_zero, List.set_cons_succ, i64_w, i32_w]
            rfl
          refine pure_ (i := 12) (N := some 19) (v := ?_) (a' := ?_) #[true, true, true, true, true, true, true, true, true, true, true, true, true, false] rfl rfl (any_of HT_.out (by kernel_rfl)) (fun _ _ _ h => h) (Or.inl ⟨by rfl, ?_⟩) ?_ ?_
          rotate_left
          · intro w'
            go_simp
            with_reducible rfl
          rotate_left
          · simp only [Act.put, List.setIfInBounds_toArray, List.set_cons_zero, List.set_cons_succ, i64_w, i32_w]
            rfl
          refine pure_ (i := 13) (N := some 20) (v := ?_) (a' := ?_) #[true, true, true, true, true, true, true, true, true, true, true, true, true, true] rfl rfl (any_of HT_.out (by kernel_rfl)) (fun _ _ _ h => h) (Or.inl ⟨by rfl, ?_⟩) ?_ ?_
          rotate_left
          · intro w'
            go_simp
            with_reducible rfl
          rotate_left
          · simp only [Act.put, List.setIfInBounds_toArray, List.set_cons_zero, List.set_cons_succ, i64_w, i32_w]
            rfl
          refine done_ (done_of HT_.out (by kernel_rfl)) ?_
          try go_wp2
          refine bodyPost_ret (results_list (rs := [.cell 16 42, .tmp 17, .tmp 18, .tmp 19, .tmp 20]) rfl (by simp) (.cell w.heap.size 42 #[.slice Z2 cC.length z2, .slice Z3 cD.length z3] (0, 0) _ rfl Z16.out.1 Tryd.underlying42 rfl (by kernel_rfl) (.tmp (.tmp (.tmp (.tmp .nil)))))) rfl ?_
          have hfin : (JC, JD, JF) = (cC, cD, fd2) := by rw [hJW.out, ← hCF.out, ← hJC.out]
          obtain ⟨rfl, rfl, rfl⟩ : JC = cC ∧ JD = cD ∧ JF = fd2 := by
            injection hfin with h1 h2
            injection h2 with h2 h3
            exact ⟨h1, h2, h3⟩
          refine ⟨_, _, _, _, ?_, ZZ0.out, ZZ1.out, ZZ3.out, ZZ4.out, ZL.out⟩
          first | rfl | (simp; done) | (simp [Nat.add_assoc]; done) | (rw [Int.natCast_add, Int.natCast_add, ← Int.add_assoc]; rfl)
end Go.Proofs.YtgdogjnjbinoiaaDoor.Q
