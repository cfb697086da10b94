/- Words for a block of memory whose cells are of several kinds (a struct that holds arrays): read and written part by part. Plain lemmas about the model's worlds; no condition but those that each states. -/
import Derived.Test.YtgdogjnjbinoiaaDoorHarr
import Derived.Deep.MidRow
import Derived.Laws.CopyOwn
set_option linter.unusedVariables false
namespace Go.Proofs.YtgdogjnjbinoiaaDoor.H
open Go.RowKit Go.Proofs.YtgdogjnjbinoiaaDoorW.PrintWords

/-- Block g holds these cells. -/
structure Bk (w : World) (g t : Nat) (cs : List Value) : Prop where mk :: (out : w.heap[g]? = some (.cells cs.toArray t (0, 0)))
section
variable {w w' : World} {g t : Nat} {cs : List Value}
theorem Bk.lt (h : Bk w g t cs) : g < w.heap.size := (Array.getElem?_eq_some_iff.1 h.out).1
theorem Bk.cell (h : Bk w g t cs) (i : Nat) : w.cell? ⟨g, i, none⟩ = cs[i]? := by
  rw [cell_of_row w g i _ t (0, 0) h.out]
  simp
theorem Bk.frozen (h : Bk w g t cs) (i : Nat) : w.frozen? ⟨g, i, none⟩ = false := frozen_of_row w g i _ t h.out
theorem Bk.set (h : Bk w g t cs) (i : Nat) (v : Value) : Bk (w.setCell ⟨g, i, none⟩ v) g t (cs.set i v) := by
  refine ⟨?_⟩
  rw [heap_setCell_same w g i _ t _ h.out]
  congr 2
  simp
theorem Bk.range (h : Bk w g t cs) (o : Nat) (vs : List Value) (hv : ∀ j, j < vs.length → cs[o + j]? = vs[j]?) : w.rangeAt g o vs := fun j v hj => by
  have hlt := (List.getElem?_eq_some_iff.1 hj).1
  rw [h.cell, hv j hlt, hj]
theorem Bk.there (h : Bk w g t cs) (o n : Nat) (hn : o + n ≤ cs.length) : w.there g o n := fun j hj => ⟨by rw [h.cell, List.getElem?_eq_getElem (by omega)]; rfl, h.frozen _⟩
theorem Bk.cells (h : Bk w g t cs) (o : Nat) (vs : List Value) (hf : o + vs.length ≤ cs.length) : Bk (w.setCells g o vs) g t (splice cs o vs) := by
  obtain ⟨cur', h1, _, h3⟩ := setCells_row vs o w cs.toArray h.out (by simpa using hf)
  refine ⟨?_⟩
  rw [h1]
  congr 2
  apply Array.ext'
  rw [h3]
  simp [splice]
theorem grown_cells (w : World) (g o : Nat) (vs : List Value) : w.grownBy (w.setCells g o vs) (some g) := by
  obtain ⟨h1, h2, h3, h4⟩ := setCells_same g vs o w
  exact ⟨h1, h2, h3, by rw [h4]; exact Nat.le_refl _, fun k _ hk => setCells_far vs o k (fun e => hk (by rw [e]))⟩
theorem Bk.drew (h : Bk w g t cs) : Bk w.drew g t cs := ⟨h.out⟩
theorem Bk.drewN (h : Bk w g t cs) (n : Nat) : Bk (w.drewN n) g t cs := ⟨h.out⟩
theorem Bk.alloc (h : Bk w g t cs) (o : Obj) : Bk (w.alloc o) g t cs := ⟨(Below.heap_alloc w o g h.lt).trans h.out⟩
theorem Bk.grown (h : Bk w g t cs) {row : Option Nat} (hg : w.grownBy w' row) (hne : some g ≠ row) : Bk w' g t cs := ⟨(hg.block g h.lt hne).trans h.out⟩
theorem Bk.below (h : Bk w g t cs) (hb : Below w.heap.size w w') : Bk w' g t cs := ⟨(hb.block g h.lt).trans h.out⟩
theorem Bk.far (h : Bk w g t cs) {a : Addr} (ha : g ≠ a.block) (v : Value) : Bk (w.setCell a v) g t cs := ⟨(heap_setCell_other w a g v ha).trans h.out⟩
theorem Bk.at0 (w : World) (t : Nat) (cs : List Value) (a : Array Value) (h : a = cs.toArray) : Bk (w.alloc (.cells a t)) w.heap.size t cs := by subst h; exact ⟨heap_alloc_new w _⟩
theorem grown_of_below0 (hb : Below w.heap.size w w') (row : Option Nat) : w.grownBy w' row := grown_of_below hb row
/-- A slice that is read lives on where another block is written. -/
theorem C_grown {k : IntKind} {A : Option Addr} {n : Nat} {l : List Int} (h : Kd.C (Kd.int k) w A n l) {row : Option Nat} (hg : w.grownBy w' row) (hne : n = 0 ∨ ∀ ad, A = some ad → some ad.block ≠ row) : Kd.C (Kd.int k) w' A n l := by
  have hr := Kd.reads_of_C (enc := Value.int k) (d := (0 : Int)) (h1 := fun _ => rfl) h
  refine Kd.C_of_reads (enc := Value.int k) (d := (0 : Int)) (h1 := fun _ => rfl) ⟨hr.1, hr.2.1, fun hn => ?_⟩
  obtain ⟨ad, e, hc⟩ := hr.2.2 hn
  refine ⟨ad, e, fun j hj => hg.cell (hc j hj) ?_⟩
  have : (ad.add j).block = ad.block := by unfold Addr.add; split <;> rfl
  rw [this]
  rcases hne with h0 | hne
  · omega
  · exact hne ad e
theorem splice_len {α : Type} (l : List α) (o : Nat) (vs : List α) (h : o + vs.length ≤ l.length) : (splice l o vs).length = l.length := length_splice l o vs h
/-- A part written within a part. -/
theorem splice_mid {α : Type} (p l q : List α) (o : Nat) (vs : List α) (h : o + vs.length ≤ l.length) : splice (p ++ (l ++ q)) (p.length + o) vs = p ++ (splice l o vs ++ q) := by
  unfold splice
  rw [List.take_append, List.drop_append, List.take_of_length_le (by omega : p.length ≤ p.length + o), List.drop_of_length_le (by omega : p.length ≤ p.length + o + vs.length)]
  rw [show p.length + o - p.length = o by omega, show p.length + o + vs.length - p.length = o + vs.length by omega]
  rw [List.take_append_of_le_length (by omega), List.drop_append_of_le_length (by omega)]
  simp
theorem splice_whole {α : Type} (p l q : List α) (vs : List α) (h : vs.length = l.length) : splice (p ++ (l ++ q)) p.length vs = p ++ (vs ++ q) := by
  have := splice_mid p l q 0 vs (by omega)
  rw [Nat.add_zero] at this
  rw [this]
  congr 2
  unfold splice
  rw [List.take_zero, List.drop_of_length_le (by omega)]
  simp
theorem nums_splice (k : IntKind) (l : List Int) (o : Nat) (vs : List Int) : splice (nums k l) o (nums k vs) = nums k (splice l o vs) := by
  simp [splice, nums]
theorem setRow_Bk {cs' : List Value} (h : Bk w g t cs) : Bk (w.setRow g cs'.toArray) g t cs' := ⟨setRow_heap w g _ _ t _ h.out⟩
theorem oneCell_nums {k : IntKind} {l : List Int} : ∀ v ∈ nums k l, v.oneCell' = true := fun v hv => by
  simp only [nums, List.mem_map] at hv
  obtain ⟨x, _, rfl⟩ := hv
  rfl
/-- copy into a block that is known whole, as one step of a region that draws its order. -/
theorem step_copy {P : Program} {ops : Array Oper} {o : Oper} {a : Act} {K : Act → World → Prop} {Q : Exit → Act → World → Prop} {E : Prop} (hgd : o.guard = none) (d s : Operand) (dT sT : TypeId)
    (ho : o.op = .call { callee := .builtin .copy, args := #[d, s], argTypes := #[dT, sT] }) (elem : TypeId) (hu : P.underlying dT = some (.slice elem)) (hsz : (P.info? elem).map (·.size) = some 1)
    (off dLen dCap : Nat) (ad : Addr) (sLen sCap : Nat) (hd : a.eval d = .slice (some ⟨g, off, none⟩) dLen dCap) (hs : a.eval s = .slice (some ad) sLen sCap)
    (hb : Bk w g t cs) (vs : List Value) (n : Nat) (hn : vs.length = n) (hm : n = Nat.min sLen dLen) (hsrc : ∀ j v, vs[j]? = some v → w.cell? (ad.add j) = some v) (hfit : off + vs.length ≤ cs.length) (h1 : ∀ v ∈ vs, v.oneCell' = true)
    (h : ∀ w', Bk w' g t (splice cs off vs) → w.grownBy w' (some g) → w'.heap.size = w.heap.size → K (a.put o.dst (.int .i64 n)) w') :
    if Region.wanted o (yielded ops a.tmps) = true then Oper.wp P o a w K Q else E := by
  have hw : Region.wanted o (yielded ops a.tmps) = true := by simp [Region.wanted, hgd]
  rw [if_pos hw]
  have hrun := run_copy_row (P := P) w dT sT o.type elem g off dLen dCap ad sLen sCap cs.toArray t vs hu hsz hb.out (hn.trans hm) hsrc (by simpa using hfit) h1
  have hh := h _ (setRow_Bk (cs' := splice cs off vs) hb) (grown_row w g _) (by simp)
  unfold Oper.wp
  simp only [List.append_assoc] at hrun
  simp [execOp, ho, resolve, invoke, builtin, hd, hs, hrun, Result.andThen]
  subst hn
  exact hh
/-- A store of many cells into the middle of a block, as one step of a region that draws its order. -/
theorem step_store_mid {P : Program} {ops : Array Oper} {o : Oper} {a : Act} {K : Act → World → Prop} {Q : Exit → Act → World → Prop} {E : Prop} (hgd : o.guard = none) (hN : o.dst = none) (ty : TypeId) (x y : Operand) (ho : o.op = .store ty x y)
    (off : Nat) (hx : a.eval x = .pointer (some ⟨g, off, none⟩)) (vs : List Value) (hy : a.eval y = .agg vs.toArray) (hb : Bk w g t cs) (hfit : off + vs.length ≤ cs.length) (hi : (P.info? ty).map (·.size) = some vs.length) (h1 : ∀ v ∈ vs, v.oneCell' = true)
    (h : ∀ w', Bk w' g t (splice cs off vs) → w.grownBy w' (some g) → w'.heap.size = w.heap.size → K a w') :
    if Region.wanted o (yielded ops a.tmps) = true then Oper.wp P o a w K Q else E := by
  have hw : Region.wanted o (yielded ops a.tmps) = true := by simp [Region.wanted, hgd]
  rw [if_pos hw]
  refine wp_store_mid ty x y ho g off vs.toArray hx hy (by rw [List.size_toArray]; exact hb.there off vs.length hfit) (by rw [List.size_toArray]; exact hi) (all_oneCell_toArray h1) ?_
  rw [hN]
  exact h _ (hb.cells off vs hfit) (grown_cells w g off vs) (setCells_same g vs off w).2.2.2
/-- The same in a plain region. -/
theorem store_mid {P : Program} {ops : Array Oper} {rest : List Oper} {o : Oper} {a : Act} {Q : Exit → Act → World → Prop} (hgd : o.guard = none) (ty : TypeId) (x y : Operand) (ho : o.op = .store ty x y)
    (off : Nat) (hx : a.eval x = .pointer (some ⟨g, off, none⟩)) (vs : List Value) (hy : a.eval y = .agg vs.toArray) (hb : Bk w g t cs) (hfit : off + vs.length ≤ cs.length) (hi : (P.info? ty).map (·.size) = some vs.length) (h1 : ∀ v ∈ vs, v.oneCell' = true)
    (h : ∀ w', Bk w' g t (splice cs off vs) → w.grownBy w' (some g) → w'.heap.size = w.heap.size → wpList P ops Q rest (a.put o.dst undef) w') : wpList P ops Q (o :: rest) a w := by
  refine wpList_store_mid hgd ty x y ho g off vs.toArray hx hy (by rw [List.size_toArray]; exact hb.there off vs.length hfit) (by rw [List.size_toArray]; exact hi) (all_oneCell_toArray h1) ?_
  exact h _ (hb.cells off vs hfit) (grown_cells w g off vs) (setCells_same g vs off w).2.2.2
/-- A load out of the middle of a block, in a plain region. -/
theorem load_mid {P : Program} {ops : Array Oper} {rest : List Oper} {o : Oper} {a : Act} {Q : Exit → Act → World → Prop} (hgd : o.guard = none) (ty : TypeId) (x : Operand) (ho : o.op = .load ty x)
    (off : Nat) (hx : a.eval x = .pointer (some ⟨g, off, none⟩)) (hb : Bk w g t cs) (vs : List Value) (hv : ∀ j, j < vs.length → cs[off + j]? = vs[j]?) (d : TypeDesc) (hu : P.underlying ty = some d) (hd : d.isRow = true) (hi : (P.info? ty).map (·.size) = some vs.length)
    (h : wpList P ops Q rest (a.put o.dst (.agg vs.toArray)) w) : wpList P ops Q (o :: rest) a w :=
  wpList_load_mid hgd ty x ho g off hx vs d (hb.range off vs hv) hu hd hi h
theorem exec_load_mid {P : Program} {o : Oper} {a : Act} {ty : TypeId} {x : Operand} (ho : o.op = .load ty x) {off : Nat} (hx : a.eval x = .pointer (some ⟨g, off, none⟩)) (hb : Bk w g t cs) (vs : List Value) (hv : ∀ j, j < vs.length → cs[off + j]? = vs[j]?)
    (d : TypeDesc) (hu : P.underlying ty = some d) (hd : d.isRow = true) (hi : (P.info? ty).map (·.size) = some vs.length) : (execOp a.eval o).run P w = .ok (.value (.agg vs.toArray)) w := by
  unfold execOp
  simp only [ho, hx, Instr.loadAt, Instr.sureAddr, Sem.run_bind, Sem.run_pure, Result.andThen_ok, run_loadVar_mid w g off ty vs d (hb.range off vs hv) hu hd hi]
/-- A part of a block of whole numbers is read as a slice. -/
theorem Bk.readsC {k : IntKind} (h : Bk w g t cs) (o : Nat) (l : List Int) (hv : ∀ j, j < l.length → cs[o + j]? = (nums k l)[j]?) (hl : l.length ≤ 9223372036854775807) : Kd.C (Kd.int k) w (some ⟨g, o, none⟩) l.length l := by
  refine Kd.C_of_reads (enc := Value.int k) (d := (0 : Int)) (h1 := fun _ => rfl) ⟨rfl, hl, fun _ => ⟨_, rfl, fun j hj => ?_⟩⟩
  rw [Addr.add_mid, h.cell, hv j hj, nums_getElem?]
  simp [List.getD_eq_getElem?_getD, hj]
/-- The same for a struct, whatever its fields. -/
theorem load_any {P : Program} {ops : Array Oper} {rest : List Oper} {o : Oper} {a : Act} {Q : Exit → Act → World → Prop} (hgd : o.guard = none) (ty : TypeId) (x : Operand) (ho : o.op = .load ty x)
    (off : Nat) (hx : a.eval x = .pointer (some ⟨g, off, none⟩)) (hb : Bk w g t cs) (vs : List Value) (hv : ∀ j, j < vs.length → cs[off + j]? = vs[j]?) (hu : (P.underlying ty).map TypeDesc.isRow = some true) (hi : (P.info? ty).map (·.size) = some vs.length)
    (h : wpList P ops Q rest (a.put o.dst (.agg vs.toArray)) w) : wpList P ops Q (o :: rest) a w := by
  obtain ⟨d, hd, hd2⟩ := Option.map_eq_some_iff.1 hu
  exact wpList_load_mid hgd ty x ho g off hx vs d (hb.range off vs hv) hd hd2 hi h
theorem splice_all {α : Type} (l vs : List α) (h : vs.length = l.length) : splice l 0 vs = vs := by
  unfold splice
  rw [List.take_zero, Nat.zero_add, List.drop_of_length_le (by omega)]
  simp
theorem Own.lower {base b2 e : Nat} {k : IntKind} {v : Value} {l : List Int} (h : Own w base e k v l) (hb : b2 ≤ base) : Own w b2 e k v l := by
  refine ⟨h.out.1, ?_⟩
  rcases h.out.2 with ⟨h1, h2⟩ | ⟨g, c, cur, h1, h2, h3⟩
  · exact .inl ⟨h1, h2⟩
  · exact .inr ⟨g, c, cur, h1, Nat.le_trans hb h2, h3⟩
/-- A row of the call's own is read as a slice. -/
theorem Own.readsC {base e : Nat} {k : IntKind} {v : Value} {l : List Int} (h : Own w base e k v l) (hp : 0 < l.length) (hm : l.length ≤ 9223372036854775807) : ∃ g c, v = .slice (some ⟨g, 0, none⟩) l.length c ∧ base ≤ g ∧ l.length ≤ c ∧ Kd.C (Kd.int k) w (some ⟨g, 0, none⟩) l.length l := by
  rcases h.out.2 with ⟨_, h0⟩ | ⟨g, cap, cur, rfl, hg, hh, hc, _⟩
  · omega
  · refine ⟨g, cap, rfl, hg, hc, Kd.C_of_reads (enc := Value.int k) (d := (0 : Int)) (h1 := fun _ => rfl) ⟨rfl, hm, fun _ => ⟨_, rfl, fun j hj => ?_⟩⟩⟩
    have := h.out.cells (g := g) rfl j (.int k (rd l j)) (by rw [nums_getElem?]; simp [rd, List.getD_eq_getElem?_getD, hj])
    rw [this]
    simp [rd, List.getD_eq_getElem?_getD]
theorem own_far {e : Nat} {k : IntKind} {v : Value} {l : List Int} {g : Nat} (h : w.ownsRow (g + 1) e 1 v l.length (nums k l)) : some g ≠ v.ownBlock := by
  rcases h.2 with ⟨rfl, _⟩ | ⟨g1, c, cur, rfl, h2, _⟩
  · intro h; cases h
  · intro h
    have h := Option.some.inj h
    change g = g1 at h
    omega
/-- A slice that is read does not lie in a block that is yet to come. -/
theorem C_old {k : IntKind} {A : Option Addr} {n : Nat} {l : List Int} (h : Kd.C (Kd.int k) w A n l) : n = 0 ∨ ∀ ad, A = some ad → ad.block < w.heap.size := by
  have hr := Kd.reads_of_C (enc := Value.int k) (d := (0 : Int)) (h1 := fun _ => rfl) h
  rcases Nat.eq_zero_or_pos n with h0 | h0
  · exact .inl h0
  · right
    intro ad e
    obtain ⟨ad', e', hc⟩ := hr.2.2 h0
    rw [e] at e'
    obtain rfl := Option.some.inj e'
    have := hc 0 h0
    rw [Addr.add_zero'] at this
    by_cases hlt : ad.block < w.heap.size
    · exact hlt
    · have hn : w.heap[ad.block]? = none := Array.getElem?_eq_none (by omega)
      simp [World.cell?, hn] at this
end
end Go.Proofs.YtgdogjnjbinoiaaDoor.H
