/- Words for Go's arrays of whole numbers: a block of memory read whole, cell by cell, and behind a store into it or elsewhere. Plain lemmas about the model's worlds; no condition but those that each states. -/
import Derived.Test.YtgdogjnjbinoiaaDoorWWordsX
import Derived.Laws.Rows
import Derived.Laws.Tables
import Derived.Laws.NewBlocks
import Derived.WalkKit
set_option linter.unusedVariables false
namespace Go.Proofs.YtgdogjnjbinoiaaDoor.H
open Go.RowKit Go.Proofs.YtgdogjnjbinoiaaDoorW.PrintWords

/-- Block g is an array of the whole numbers l. -/
structure Blk (w : World) (g t : Nat) (k : IntKind) (l : List Int) : Prop where mk :: (out : w.heap[g]? = some (.cells (nums k l).toArray t (0, 0)))
section
variable {w w' : World} {g t : Nat} {k : IntKind} {l : List Int}
theorem nums_getElem? (k : IntKind) (l : List Int) (i : Nat) : (nums k l)[i]? = (l[i]?).map (Value.int k) := by simp [nums]
theorem nums_set (k : IntKind) (l : List Int) (i : Nat) (v : Int) : (nums k l).set i (.int k v) = nums k (l.set i v) := by simp [nums, List.map_set]
theorem Blk.lt (h : Blk w g t k l) : g < w.heap.size := (Array.getElem?_eq_some_iff.1 h.out).1
theorem Blk.cellN (h : Blk w g t k l) (i : Nat) (hi : i < l.length) : w.cell? ⟨g, i, none⟩ = some (.int k (l.getD i 0)) := by
  rw [cell_of_row w g i _ t (0, 0) h.out]
  simp [nums, List.getD_eq_getElem?_getD, hi]
theorem Blk.cell (h : Blk w g t k l) (i : Int) (h0 : 0 ≤ i) (hi : i < l.length) : w.cell? ⟨g, i.toNat, none⟩ = some (.int k (rd l i)) := h.cellN i.toNat (by omega)
theorem Blk.frozen (h : Blk w g t k l) (i : Nat) : w.frozen? ⟨g, i, none⟩ = false := frozen_of_row w g i _ t h.out
theorem Blk.set (h : Blk w g t k l) (i : Nat) (v : Int) : Blk (w.setCell ⟨g, i, none⟩ (.int k v)) g t k (l.set i v) := by
  refine ⟨?_⟩
  rw [heap_setCell_same w g i _ t _ h.out, ← nums_set]
  congr 2
  simp
theorem Blk.far (h : Blk w g t k l) {a : Addr} (ha : g ≠ a.block) (v : Value) : Blk (w.setCell a v) g t k l := ⟨(heap_setCell_other w a g v ha).trans h.out⟩
theorem Blk.drew (h : Blk w g t k l) : Blk w.drew g t k l := ⟨h.out⟩
theorem Blk.drewN (h : Blk w g t k l) (n : Nat) : Blk (w.drewN n) g t k l := ⟨h.out⟩
theorem Blk.alloc (h : Blk w g t k l) (o : Obj) : Blk (w.alloc o) g t k l := ⟨(Below.heap_alloc w o g h.lt).trans h.out⟩
theorem Blk.grown (h : Blk w g t k l) {row : Option Nat} (hg : w.grownBy w' row) (hne : some g ≠ row) : Blk w' g t k l := ⟨(hg.block g h.lt hne).trans h.out⟩
theorem Blk.below (h : Blk w g t k l) (hb : Below w.heap.size w w') : Blk w' g t k l := ⟨(hb.block g h.lt).trans h.out⟩
theorem Blk.belowB {B : Nat} (h : Blk w g t k l) (hg : g < B) (hb : Below B w w') : Blk w' g t k l := ⟨(hb.block g hg).trans h.out⟩
theorem Blk.new (w : World) (t : Nat) (k : IntKind) (l : List Int) : Blk (w.alloc (.cells (nums k l).toArray t)) w.heap.size t k l := ⟨heap_alloc_new w _⟩
theorem grown_set (w : World) (g i : Nat) (v : Value) : w.grownBy (w.setCell ⟨g, i, none⟩ v) (some g) := ⟨rfl, rfl, rfl, by simp, fun j _ hj => heap_setCell_other w ⟨g, i, none⟩ j v (fun e => hj (by rw [e]))⟩
theorem grown_drewN (w : World) (n : Nat) (row : Option Nat) : w.grownBy (w.drewN n) row := ⟨rfl, rfl, rfl, Nat.le_refl _, fun _ _ _ => rfl⟩
theorem grown_drew (w : World) (row : Option Nat) : w.grownBy w.drew row := ⟨rfl, rfl, rfl, Nat.le_refl _, fun _ _ _ => rfl⟩
theorem grown_below {B : Nat} {w0 : World} (hb : Below B w0 w) {row : Option Nat} (hg : w.grownBy w' row) (hB : B ≤ w.heap.size) (hr : ∀ k, row = some k → B ≤ k) : Below B w0 w' := hb.grown hg hB hr
theorem Blk.at0 (w : World) (t : Nat) (k : IntKind) (l : List Int) (cs : Array Value) (h : cs = (nums k l).toArray) : Blk (w.alloc (.cells cs t)) w.heap.size t k l := by subst h; exact ⟨heap_alloc_new w _⟩
theorem Blk.at1 (w : World) (A : Obj) (t : Nat) (k : IntKind) (l : List Int) (cs : Array Value) (h : cs = (nums k l).toArray) : Blk ((w.alloc A).alloc (.cells cs t)) (w.heap.size + 1) t k l := by subst h; exact ⟨heap_alloc2_new w _ _⟩
theorem nums_one (k : IntKind) (l : List Int) : ((nums k l).toArray).all (·.oneCell') = true := by
  rw [Array.all_eq_true_iff_forall_mem]
  intro v hv
  simp only [List.mem_toArray, nums, List.mem_map] at hv
  obtain ⟨x, _, rfl⟩ := hv
  rfl
theorem Blk.row {l' : List Int} (h : Blk w g t k l) : Blk (w.setRow g (nums k l').toArray) g t k l' := ⟨setRow_heap w g _ _ t _ h.out⟩
theorem grown_row (w : World) (g : Nat) (cs : Array Value) : w.grownBy (w.setRow g cs) (some g) := ⟨rfl, rfl, rfl, by simp, fun j _ hj => setRow_other w g j cs (fun e => hj (by rw [e]))⟩
variable {P : Program} {ops : Array Oper} {rest : List Oper} {o : Oper} {a : Act} {Q : Exit → Act → World → Prop}
/-- A whole array is loaded. -/
theorem load_blk (hgd : o.guard = none) (ty : TypeId) (x : Operand) (ho : o.op = .load ty x) (hx : a.eval x = .pointer (some ⟨g, 0, none⟩)) (hg : Blk w g t k l) (n : Nat) (e : TypeId)
    (hu : P.underlying ty = some (.array n e)) (hi : (P.info? ty).map (·.size) = some n) (hn : l.length = n)
    (h : wpList P ops Q rest (a.put o.dst (.agg (nums k l).toArray)) w) : wpList P ops Q (o :: rest) a w :=
  wpList_load_row hgd ty x ho g hx t _ (0, 0) (.array n e) hg.out hu rfl (by rw [hi]; simp [nums, hn]) h
/-- A whole array is stored. -/
theorem store_blk (hgd : o.guard = none) (ty : TypeId) (x y : Operand) (ho : o.op = .store ty x y) (hx : a.eval x = .pointer (some ⟨g, 0, none⟩)) (l' : List Int) (hy : a.eval y = .agg (nums k l').toArray) (hg : Blk w g t k l) (n : Nat)
    (hi : (P.info? ty).map (·.size) = some n) (hn : l.length = n) (hn' : l'.length = n)
    (h : ∀ w', Blk w' g t k l' → w.grownBy w' (some g) → w'.heap.size = w.heap.size → wpList P ops Q rest (a.put o.dst undef) w') : wpList P ops Q (o :: rest) a w :=
  wpList_store_row hgd ty x y ho g _ hx hy t _ hg.out (by rw [hi]; simp [nums, hn']) (by simp [nums, hn, hn']) (nums_one k l') (h _ hg.row (grown_row w g _) (by simp))
/-- A result that lies in an array's block. -/
theorem results_blk {fn : Func} {p : Tmp} {ty : TypeId} (h : fn.results = #[.cell p ty]) (tmps : Array Value) (hp : tmps.getD p undef = .pointer (some ⟨g, 0, none⟩)) (hg : Blk w g t k l) (n : Nat) (e : TypeId)
    (hu : P.underlying ty = some (.array n e)) (hi : (P.info? ty).map (·.size) = some n) (hn : l.length = n) : (results fn tmps).run P w = .ok (.agg (nums k l).toArray) w :=
  results_cell_row h tmps w g t _ (0, 0) (.array n e) hp hg.out hu rfl (by rw [hi]; simp [nums, hn])
theorem one_cells {v : Value} (h : v.oneCell' = true) : v.cells = #[v] := by
  cases v <;> simp_all [Value.cells, Value.oneCell']
/-- One whole number is stored into a cell. -/
theorem exec_store {ty : TypeId} {x y : Operand} (ho : o.op = .store ty x y) {ad : Addr} {v old : Value} (hx : a.eval x = .pointer (some ad)) (hy : a.eval y = v) (hv : v.oneCell' = true) (hi : (P.info? ty).map (·.size) = some 1)
    (hc : w.cell? ad = some old) (hf : w.frozen? ad = false) : (execOp a.eval o).run P w = .ok .skip (w.setCell ad v) := by
  obtain ⟨i0, hi0, hs0⟩ := Option.map_eq_some_iff.1 hi
  have h : (storeVar ty ad v).run P w = .ok () (w.setCell ad v) := by
    simp [storeVar, one_cells hv, sizeOf, typeInfo, hi0, hs0, storeCells, run_store P _ _ v _ hv, Addr.add_zero', hc, hf, Result.andThen]
  unfold execOp
  simp only [ho, hx, hy, Instr.storeAt, Instr.sureAddr, Sem.run_bind, Sem.run_pure, Result.andThen_ok, h]
/-- A row of whole numbers of the call's own. -/
structure Own (w : World) (base e : Nat) (k : IntKind) (v : Value) (l : List Int) : Prop where mk :: (out : w.ownsRow base e 1 v l.length (nums k l))
theorem Own.grown {base e : Nat} {v : Value} (h : Own w base e k v l) {row : Option Nat} (hg : w.grownBy w' row) (hne : v.ownBlock = none ∨ v.ownBlock ≠ row) : Own w' base e k v l := ⟨h.out.kept hg hne⟩
theorem Own.below {base e : Nat} {v : Value} (h : Own w base e k v l) (hb : Below w.heap.size w w') : Own w' base e k v l := ⟨pw_own_below h.out hb⟩
theorem Own.alloc {base e : Nat} {v : Value} (h : Own w base e k v l) (o : Obj) : Own (w.alloc o) base e k v l := ⟨h.out.alloc o⟩
theorem Own.toR {base e : Nat} {v : Value} (h : Own w base e k v l) : Kd.R (Kd.int k) e w base (fun _ => True) v l :=
  Kd.R_of_own (enc := Value.int k) (h1 := fun _ => rfl) (by have := h.out; exact this) (fun _ _ => trivial)
theorem Own.nil (w : World) (base e : Nat) (k : IntKind) : Own w base e k (.slice none 0 0) [] := ⟨own_nil w base e 1⟩
/-- append(s, x...) where x is a whole array, or a literal, of ys. -/
theorem app_blk {base e t2 g2 c : Nat} (hgd : o.guard = none) (s x : Operand) (t : TypeId) (ho : o.op = .call { callee := .builtin .append, args := #[s, x], argTypes := #[t, t] })
    (ht : P.underlying t = some (.slice e)) (bytes : Nat) (hinfo : (P.info? e).map (fun i => (i.zero, i.size, i.bytes)) = some (some (.int k 0), 1, bytes)) (v : Value) (ys : List Int) (hs : a.eval s = v) (hown : Own w base e k v l)
    (hx : a.eval x = .slice (some ⟨g2, 0, none⟩) ys.length c) (hb : Blk w g2 t2 k ys) (hb0 : 0 < bytes) (hl : (l.length + ys.length) * bytes ≤ 140737488355328) (hbase : base ≤ w.heap.size)
    (h : ∀ v' w', Own w' base e k v' (l ++ ys) → w.grownBy w' v.ownBlock → (v'.ownBlock = v.ownBlock ∨ v'.ownBlock = some w.heap.size) → wpList P ops Q rest (a.put o.dst v') w') :
    wpList P ops Q (o :: rest) a w := by
  obtain ⟨i0, hi, hzz⟩ := Option.map_eq_some_iff.1 hinfo
  simp only [Prod.mk.injEq] at hzz
  obtain ⟨hz0, hz1, hz2⟩ := hzz
  have hlen : l.length + ys.length ≤ 140737488355328 := Nat.le_trans (Nat.le_mul_of_pos_right _ hb0) hl
  refine wpList_append_own_at w hgd s x t ho base e i0 (.int k 0) 1 bytes ht hi hz0 hz1 hz2 rfl (by omega) v l.length (nums k l) hs hown.out ⟨g2, 0, none⟩ ys.length c (nums k ys) hx (by simp [nums]) (fun j u hu => ?_) (fun u hu => ?_) (by simp only [maxLen]; omega) hl hbase ?_
  · have hj : j < ys.length := by have := (List.getElem?_eq_some_iff.1 hu).1; simpa [nums] using this
    rw [add_plain, hb.cellN j hj, ← hu, nums_getElem?]
    simp [List.getD_eq_getElem?_getD, hj]
  · simp only [nums, List.mem_map] at hu
    obtain ⟨x, _, rfl⟩ := hu
    rfl
  · intro v' w' h1 h2 _ h4
    exact h v' w' ⟨by rw [List.length_append, nums_append]; exact h1⟩ h2 h4
theorem Own.room (w : World) (base e : Nat) (k : IntKind) (m : Nat) (hb : base ≤ w.heap.size) (hm : m ≤ maxLen) : Own (w.alloc (.cells (nums k (List.replicate m 0)).toArray e)) base e k (.slice (some ⟨w.heap.size, 0, none⟩) 0 m) [] :=
  ⟨rfl, .inr ⟨w.heap.size, m, _, rfl, hb, heap_alloc_new w _, Nat.zero_le _, hm, by simp [nums], by simp [nums]⟩⟩
/-- An element of an array that is a value. -/
theorem index_agg {t e n : Nat} (hu : P.underlying t = some (.array n e)) (hi : (P.info? e).map (·.size) = some 1) (ha : (P.underlying e) = some (.int k)) (hl : l.length = n) (i : Int) (h0 : 0 ≤ i) (h1 : i < n) (w : World) :
    (Instr.index t (.agg (nums k l).toArray) (.int .i64 i)).run P w = .ok (.int k (rd l i)) w := by
  obtain ⟨i0, hi0, hs0⟩ := Option.map_eq_some_iff.1 hi
  have hlt : i.toNat < l.length := by omega
  simp [Instr.index, asIntOf, run_underlying hu, h0, h1, sizeOf, typeInfo, hi0, hs0, part, isAgg, run_underlying ha, nums, List.getElem?_map, hlt, rd, List.getD_eq_getElem?_getD]
theorem Own.of_blk {base e : Nat} (h : Blk w g e k l) (hb : base ≤ g) (hm : l.length ≤ maxLen) : Own w base e k (.slice (some ⟨g, 0, none⟩) l.length l.length) l :=
  ⟨by simp [nums], .inr ⟨g, l.length, _, rfl, hb, h.out, Nat.le_refl _, hm, by simp [nums], by rw [Nat.mul_one]; exact List.take_of_length_le (by simp [nums])⟩⟩
/-- The cells of a row of the call's own. -/
theorem Own.cells {base e : Nat} {v : Value} (h : Own w base e k v l) (hp : 0 < l.length) : ∃ g c, v = .slice (some ⟨g, 0, none⟩) l.length c ∧ base ≤ g ∧ g < w.heap.size ∧ ∀ j : Nat, j < l.length → w.cell? ⟨g, j, none⟩ = some (.int k (rd l j)) := by
  rcases h.out.2 with ⟨_, h0⟩ | ⟨g, cap, cur, rfl, hg, hh, _⟩
  · omega
  · refine ⟨g, cap, rfl, hg, (Array.getElem?_eq_some_iff.1 hh).1, fun j hj => ?_⟩
    have := h.out.cells (g := g) rfl j (.int k (rd l j)) (by rw [nums_getElem?]; simp [rd, List.getD_eq_getElem?_getD, hj])
    rwa [add_plain] at this
theorem made_nums (k : IntKind) (n : Nat) : madeCells #[.int k 0] n = (nums k (List.replicate n 0)).toArray := by
  apply Array.ext'
  apply List.ext_getElem
  · simp [nums, madeCells]
  · intro i h1 h2
    simp [nums, madeCells, Nat.mod_one]
end
end Go.Proofs.YtgdogjnjbinoiaaDoor.H
