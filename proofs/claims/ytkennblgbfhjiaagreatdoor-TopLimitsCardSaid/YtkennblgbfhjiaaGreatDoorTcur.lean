/- Cursors: bytes that are read, piece by piece; a slice of bytes that is read. -/
import Derived.Test.YtkennblgbfhjiaaGreatDoorCkeys
import Derived.Test.YtkennblgbfhjiaaGreatDoorChmac
import Derived.Test.YtkennblgbfhjiaaGreatDoorCkey
import Derived.Test.YtkennblgbfhjiaaGreatDoorCsha
import Derived.Test.YtkennblgbfhjiaaGreatDoorFtop
import Derived.Test.YtkennblgbfhjiaaGreatDoorHmark
namespace Go.Proofs.YtkennblgbfhjiaaGreatDoor.Q
open Go.RowKit Go.Proofs.YtkennblgbfhjiaaGreatDoorW.PrintWords Go.Proofs.YtkennblgbfhjiaaGreatDoorW.PrintLast Go.Proofs.YtkennblgbfhjiaaGreatDoorW.PrintMore Go.Proofs.YtkennblgbfhjiaaGreatDoor.F Go.Proofs.YtkennblgbfhjiaaGreatDoor.H
set_option linter.unusedVariables false
set_option linter.unusedSimpArgs false
/-- A slice of bytes that is read. -/
def SL (w : World) (v : Value) (l : List Int) : Prop := ∃ A c, v = .slice A l.length c ∧ l.length ≤ c ∧ Kd.C (Kd.int .u8) w A l.length l
theorem SL.below {w w' : World} {v : Value} {l : List Int} (h : SL w v l) (hb : Below w.heap.size w w') : SL w' v l := by
  obtain ⟨A, c, e, h1, h2⟩ := h
  exact ⟨A, c, e, h1, Kd.C_below h2 hb⟩
theorem SL.nil (w : World) : SL w (.slice none 0 0) [] := ⟨none, 0, rfl, Nat.le_refl _, Kd.C_nil _ _⟩
theorem SL.of_R {w : World} {e base : Nat} {ok : Nat → Prop} {v : Value} {l : List Int} (h : Kd.R (Kd.int .u8) e w base ok v l) : SL w v l := by
  obtain ⟨A, c, e1, h1, h2⟩ := Kd.R_reads h
  exact ⟨A, c, e1, h1, h2⟩
theorem SL.len {w : World} {A : Option Addr} {n c : Nat} {l : List Int} (h : SL w (.slice A n c) l) : n = l.length := by
  obtain ⟨A', c', e, _, h2⟩ := h
  injection e
theorem SL.C {w : World} {A : Option Addr} {n c : Nat} {l : List Int} (h : SL w (.slice A n c) l) : Kd.C (Kd.int .u8) w A n l := by
  obtain ⟨A', c', e, _, h2⟩ := h
  injection e with e1 e2 e3
  rw [e1, e2]
  exact h2
theorem SL.cap {w : World} {A : Option Addr} {n c : Nat} {l : List Int} (h : SL w (.slice A n c) l) : l.length ≤ c := by
  obtain ⟨A', c', e, h1, _⟩ := h
  injection e with e1 e2 e3
  rw [e3]
  exact h1
theorem SL.is {w : World} {v : Value} {l : List Int} (h : SL w v l) : ∃ A c, v = .slice A l.length c := by
  obtain ⟨A, c, e, _⟩ := h
  exact ⟨A, c, e⟩
theorem SL.take {w : World} {A : Option Addr} {c : Nat} {l : List Int} (h : SL w (.slice A l.length c) l) (n : Nat) (hn : n ≤ l.length) : SL w (.slice A n c) (l.take n) := by
  have e : (l.take n).length = n := by rw [List.length_take]; omega
  exact ⟨A, c, by rw [e], by have := h.cap; omega, Kd.C_take h.C hn⟩
theorem SL.drop {w : World} {A : Option Addr} {c : Nat} {l : List Int} (h : SL w (.slice A l.length c) l) (n : Nat) (hn : n ≤ l.length) : SL w (.slice (if c = n then A else A.map (·.add n)) (l.length - n) (c - n)) (l.drop n) := by
  have e : (l.drop n).length = l.length - n := by rw [List.length_drop]
  have hd := Kd.C_drop (m := n) h.C hn h.cap
  have e1 : n * (Kd.int .u8).sz = n := Nat.mul_one n
  rw [e1] at hd
  exact ⟨_, _, by rw [e], by have := h.cap; omega, hd⟩
/-- A block of one cell, a slice: no byte lies in it. -/
theorem no_byte {w : World} {g t : Nat} {A : Option Addr} {n c : Nat} (h : w.heap[g]? = some (.cells #[.slice A n c] t (0, 0))) {q : Addr} {k : IntKind} {x : Int} (hq : w.cell? q = some (.int k x)) : g ≠ q.block := by
  rintro rfl
  obtain ⟨qb, qo, qs⟩ := q
  simp only [World.cell?, h] at hq
  match qo, qs with
  | 0, none => simp at hq
  | j + 1, none => simp at hq
  | _, some _ => simp at hq
/-- What is read stays where a block of one slice is turned and new blocks are made. -/
theorem SL.keep {w w' : World} {v : Value} {l : List Int} {g t : Nat} {A : Option Addr} {n c : Nat} (h : SL w v l) (hg : w.heap[g]? = some (.cells #[.slice A n c] t (0, 0))) (hw : w.grownBy w' (some g)) : SL w' v l := by
  obtain ⟨B, c', e, h1, h2⟩ := h
  refine ⟨B, c', e, h1, C_grown h2 hw ?_⟩
  obtain ⟨r1, r2, r3⟩ := Kd.reads_of_C (enc := Value.int .u8) (d := (0 : Int)) (h1 := fun _ => rfl) h2
  by_cases h0 : l.length = 0
  · exact .inl h0
  · right
    rintro ad rfl hbl
    obtain ⟨ad', ea, hc⟩ := r3 (by omega)
    obtain rfl := Option.some.inj ea
    exact no_byte hg (hc 0 (by omega)) (Option.some.inj hbl).symm
/-- A cursor: a block of one slice, and what is left. -/
structure Cur (w : World) (g : Nat) (l : List Int) : Prop where mk ::
  out : ∃ A c, w.heap[g]? = some (.cells #[.slice A l.length c] 146 (0, 0)) ∧ SL w (.slice A l.length c) l ∧ l.length ≤ 140737488350000
theorem Cur.lt {w : World} {g : Nat} {l : List Int} (h : Cur w g l) : g < w.heap.size := by
  obtain ⟨A, c, h1, _⟩ := h.out
  exact (Array.getElem?_eq_some_iff.1 h1).1
theorem Cur.below {w w' : World} {g : Nat} {l : List Int} (h : Cur w g l) (hb : Below w.heap.size w w') : Cur w' g l := by
  have hl := h.lt
  obtain ⟨A, c, h1, h2, h3⟩ := h.out
  exact ⟨A, c, (hb.block g hl).trans h1, h2.below hb, h3⟩
theorem Cur.keep {w w' : World} {g : Nat} {l m : List Int} {v : Value} (h : Cur w g l) (hw : w.grownBy w' (some g)) (hv : SL w v m) : SL w' v m := by
  obtain ⟨A, c, h1, _⟩ := h.out
  exact hv.keep h1 hw
theorem grown_trans {w w1 w2 : World} {g : Nat} (h : w.grownBy w1 (some g)) (h' : w1.grownBy w2 (some g)) : w.grownBy w2 (some g) := by
  obtain ⟨a1, a2, a3, a4, a5⟩ := h
  obtain ⟨b1, b2, b3, b4, b5⟩ := h'
  exact ⟨b1.trans a1, b2.trans a2, b3.trans a3, Nat.le_trans a4 b4, fun j hj hn => (b5 j (by omega) hn).trans (a5 j hj hn)⟩
theorem clone_any (A : Option Addr) (n c : Nat) (l : List Int) (w : World) (h : SL w (.slice A n c) l) (hm : l.length ≤ 140737488355000) :
    Calls Tryz.prog 34 #[.slice A n c] w fun e w' => ∃ v, e = .returned v ∧ SL w' v l ∧ Below w.heap.size w w' := by
  obtain rfl := h.len
  refine (slices_Clone_byte_byte.calls A c l l w h.C h.cap (if_pos hm)).mono ?_
  rintro e w' ⟨v, rfl, h1, h2⟩
  exact ⟨v, rfl, .of_R h1, h2⟩
theorem left_any (g : Nat) (l : List Int) (w : World) (h : Cur w g l) : Calls Tryz.prog 120 #[.pointer (some ⟨g, 0, none⟩)] w fun e w' => e = .returned (.int .i64 l.length) ∧ w' = w := by
  obtain ⟨A, c, h1, h2, h3⟩ := h.out
  have hc := cell_of_one h1
  clear h h1 h2
  go_enter Tryz.func120, Tryz.ntmps120
  go_wp2
  go_ret
  exact ⟨rfl, rfl⟩
theorem take_fin {w w1 : World} {g n c c' : Nat} {l m : List Int} {A A' : Option Addr} {v : Value} (hlt : g < w.heap.size) (L1 : Below w.heap.size w w1) (G1 : w1.heap[g]? = some (.cells #[.slice A l.length c] 146 (0, 0))) (h3 : l.length ≤ 140737488350000) (S1 : SL w1 v m) (S2 : SL w1 (.slice A' (l.length - n) c') (l.drop n)) :
    SL (w1.setCell ⟨g, 0, none⟩ (.slice A' (l.length - n) c')) v m ∧ Cur (w1.setCell ⟨g, 0, none⟩ (.slice A' (l.length - n) c')) g (l.drop n) ∧ w.grownBy (w1.setCell ⟨g, 0, none⟩ (.slice A' (l.length - n) c')) (some g) := by
  have hw := grown_set w1 g 0 (.slice A' (l.length - n) c')
  have e : (l.drop n).length = l.length - n := List.length_drop
  refine ⟨S1.keep G1 hw, ⟨A', c', by rw [e]; exact one_setCell G1, by rw [e]; exact S2.keep G1 hw, by rw [e]; omega⟩, grown_trans (grown_of_below0 L1 _) hw⟩
theorem take_any (g : Nat) (l : List Int) (n : Nat) (w : World) (h : Cur w g l) (hn : n ≤ l.length) : Calls Tryz.prog 121 #[.pointer (some ⟨g, 0, none⟩), .int .i64 n] w fun e w' => ∃ v, e = .returned v ∧ SL w' v (l.take n) ∧ Cur w' g (l.drop n) ∧ w.grownBy w' (some g) := by
  have hlt := h.lt
  have HC := Aside0.mk h
  obtain ⟨A, c, h1, h2, h3⟩ := h.out
  have hc := cell_of_one h1
  have hcap := h2.cap
  have H2 := Aside0.mk h2
  have H1 := Aside0.mk h1
  have p0 : (0 ≤ (n : Int)) := by omega
  have p1 : ¬ ((c : Int) < (n : Int)) := by omega
  have p2 : ¬ ((l.length : Int) < (n : Int)) := by omega
  clear h h1 h2
  go_enter Tryz.func121, Tryz.ntmps121
  go_wp2_with fail
  refine (clone_any A n c (l.take n) w (H2.out.take n hn) (by rw [List.length_take]; omega)).mono ?_
  rintro e w1 ⟨v, rfl, S1, L1⟩
  have C1 := HC.out.below L1
  have hg1 := (L1.block g hlt).trans H1.out
  have hc1 := cell_of_one hg1
  have hf1 := free_of_one hg1
  have S2 := Aside0.mk (H2.out.below L1)
  have G1 := Aside0.mk hg1
  replace S1 := Aside0.mk S1
  replace L1 := Aside0.mk L1
  clear hc C1 HC H2 H1 hg1
  go_wp2
  · go_ret
    obtain ⟨a, b, d⟩ := take_fin hlt L1.out G1.out h3 S1.out (by have := S2.out.drop n hn; rwa [if_pos (by assumption), show c - n = 0 by omega] at this)
    exact ⟨_, rfl, a, b, d⟩
  · go_ret
    obtain ⟨a, b, d⟩ := take_fin hlt L1.out G1.out h3 S1.out (by have := S2.out.drop n hn; rwa [if_neg (by assumption)] at this)
    exact ⟨_, rfl, a, b, d⟩
/-- Where less is left than is asked for. -/
theorem cbytes_any (g : Nat) (l : List Int) (n : Nat) (w : World) (h : Cur w g l) (hn : n ≤ l.length) : Calls Tryz.prog 73 #[.pointer (some ⟨g, 0, none⟩), .int .i64 n] w fun e w' => ∃ v, e = .returned (.tuple #[v, .int .i64 0]) ∧ SL w' v (l.take n) ∧ Cur w' g (l.drop n) ∧ w.grownBy w' (some g) := by
  have HC := Aside0.mk h
  have q0 : ((n : Int) < 0) = False := eq_false (by omega)
  have q1 : ((l.length : Int) < (n : Int)) = False := eq_false (by omega)
  clear h
  go_enter Tryz.func73, Tryz.ntmps73
  go_wp2_with fail
  refine (left_any g l w HC.out).mono ?_
  rintro e w1 ⟨rfl, rfl⟩
  go_wp2_with fail
  refine (take_any g l n _ HC.out hn).mono ?_
  rintro e w2 ⟨v, rfl, h1, h2, h3⟩
  have H1 := Aside0.mk h1
  have H2 := Aside0.mk h2
  have H3 := Aside0.mk h3
  clear h1 h2 h3
  go_wp2
  go_ret2
  exact ⟨_, rfl, H1.out, H2.out, H3.out⟩
theorem cend_any (g : Nat) (w : World) (h : Cur w g []) : Calls Tryz.prog 81 #[.pointer (some ⟨g, 0, none⟩)] w fun e w' => e = .returned (.int .i64 0) ∧ w' = w := by
  have HC := Aside0.mk h
  clear h
  go_enter Tryz.func81, Tryz.ntmps81
  go_wp2_with fail
  refine (left_any g [] w HC.out).mono ?_
  rintro e w1 ⟨rfl, rfl⟩
  go_wp2
  go_ret
  exact ⟨rfl, rfl⟩
theorem cnew_any (A : Option Addr) (c n : Nat) (l : List Int) (w : World) (h : SL w (.slice A n c) l) (hm : l.length ≤ 140737488350000) : Calls Tryz.prog 70 #[.slice A n c] w fun e w' => ∃ g, e = .returned (.pointer (some ⟨g, 0, none⟩)) ∧ w.heap.size ≤ g ∧ Cur w' g l ∧ Below w.heap.size w w' := by
  have H := Aside0.mk h
  clear h
  go_enter Tryz.func70, Tryz.ntmps70
  go_wp2_with fail
  refine (clone_any A n c l w H.out (by omega)).mono ?_
  rintro e w1 ⟨v, rfl, h1, h2⟩
  have H1 := Aside0.mk h1
  have H2 := Aside0.mk h2
  obtain ⟨B, d, rfl⟩ := h1.is
  clear h1 h2
  go_wp2
  go_ret
  refine ⟨_, rfl, H2.out.size, ⟨B, d, heap_alloc_new _ _, H1.out.below (below_alloc (Below.refl _ _) _), hm⟩, below_alloc H2.out _⟩
end Go.Proofs.YtkennblgbfhjiaaGreatDoor.Q
