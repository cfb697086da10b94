/- []byte(s) and one byte appended to it: what is read afterwards. -/
import Derived.Test.YtkennblgbfhjiaaGreatDoorHapp
import Derived.Lib.ConvBytes
set_option linter.unusedVariables false
namespace Go.Proofs.YtkennblgbfhjiaaGreatDoor.H
open Go.RowKit Go.Proofs.YtkennblgbfhjiaaGreatDoorW.PrintWords
/-- The bytes of a string turned into a row; the string's mark lies behind the row's end. -/
structure Mk (w : World) (g e n cap : Nat) (l : List Int) : Prop where
  len : l.length = n
  le : n ≤ cap
  max : cap ≤ maxLen
  row : ∃ cur : Array Value, w.heap[g]? = some (.cells cur e (cur.size, cur.size + 1)) ∧ cur.size = cap ∧ cur.toList.take n = nums .u8 l
theorem Mk.lt {w : World} {g e n cap : Nat} {l : List Int} (h : Mk w g e n cap l) : g < w.heap.size := by
  obtain ⟨cur, h1, _⟩ := h.row
  exact (Array.getElem?_eq_some_iff.1 h1).1
theorem Mk.alloc {w : World} {g e n cap : Nat} {l : List Int} (h : Mk w g e n cap l) (o : Obj) : Mk (w.alloc o) g e n cap l := by
  obtain ⟨cur, h1, h2⟩ := h.row
  exact ⟨h.len, h.le, h.max, cur, (heap_alloc_old w o h.lt).trans h1, h2⟩
theorem Mk.at_conv (w : World) (e : TypeId) (s : ByteArray) (hs : s.size ≤ 140737488355328) : Mk (Lib.bytesWorld w e s) w.heap.size e s.size (grownCap w s.size 0 e) (bytesOf s) := by
  have hge := grownCap_ge w s.size 0 e
  have hle := grownCap_le_maxLen w s.size 0 e (by simp only [maxLen]; omega)
  have hdl : s.data.size = s.size := rfl
  refine ⟨bytesOf_length s, hge, hle, Lib.bytesCells w e s, Lib.bytesWorld_at_new w e s, ?_, ?_⟩
  · simp only [Lib.bytesCells, Array.size_append, Array.size_map, Array.size_replicate]
    omega
  · have hn : nums .u8 (bytesOf s) = s.data.toList.map (fun b => Value.int .u8 b.toNat) := by simp [nums, bytesOf]
    rw [hn, Lib.bytesCells, Array.toList_append, Array.toList_map, List.take_left' (by rw [List.length_map, data_length])]
theorem cell_at0 (w : World) (v : Value) (e : TypeId) : (w.alloc (.cells #[v] e)).cell? ⟨w.heap.size, 0, none⟩ = some v := by
  unfold World.cell?
  rw [heap_alloc_new]
  rfl
theorem own_below {w w' : World} {base e : Nat} {k : IntKind} {v : Value} {l : List Int} (h : Own w base e k v l) (hb : Below w.heap.size w w') : Own w' base e k v l :=
  ⟨h.out.kept (grown_of_below0 hb none) (by cases v.ownBlock <;> simp)⟩
/-- A row whose first cells are known is read. -/
theorem C_of_cells {w : World} {g e m : Nat} {fr : Nat × Nat} {cs : Array Value} {l : List Int} (h : w.heap[g]? = some (.cells cs e fr)) (ht : cs.toList.take m = nums .u8 l) (hl : l.length = m) (hm : m ≤ 9223372036854775807) : Kd.C (Kd.int .u8) w (some ⟨g, 0, none⟩) m l := by
  refine Kd.C_of_reads (enc := Value.int .u8) (d := (0 : Int)) (h1 := fun _ => rfl) ⟨hl, hm, fun _ => ⟨_, rfl, fun j hj => ?_⟩⟩
  have h1 : cs.toList[j]? = (nums .u8 l)[j]? := by rw [← ht, List.getElem?_take_of_lt hj]
  have h2 : w.cell? ⟨g, j, none⟩ = cs[j]? := by simp [World.cell?, h]
  rw [Addr.add_mid, Nat.zero_add, h2, ← Array.getElem?_toList, h1]
  simp [nums, List.getD_eq_getElem?_getD, show j < l.length by omega]
/-- []byte(s). -/
theorem conv_bytes {P : Program} {ops : Array Oper} {rest : List Oper} {o : Oper} {a : Act} {Q : Exit → Act → World → Prop} {w : World} (hgd : o.guard = none) (x : Operand) (src dst e : TypeId) (ho : o.op = .convert src dst x) (hs : P.underlying src = some .string) (hd : P.underlying dst = some (.slice e)) (he : P.underlying e = some (.int .u8)) (s : ByteArray) (hx : a.eval x = .string s) (hm : s.size ≤ 140737488355328)
    (h : ∀ cap w1, Mk w1 w.heap.size e s.size cap (bytesOf s) → Below w.heap.size w w1 → wpList P ops Q rest (a.put o.dst (.slice (some ⟨w.heap.size, 0, none⟩) s.size cap)) w1) : wpList P ops Q (o :: rest) a w := by
  refine wpList_plain hgd fun K hK => ?_
  have hr := Lib.run_convert_string_bytes (P := P) w src dst e s hs hd he
  unfold Oper.wp execOp
  simp only [ho, hx, Sem.run_bind, Sem.run_pure, hr, Result.andThen_ok]
  exact hK _ _ (h _ _ (Mk.at_conv w e s hm) ⟨rfl, rfl, rfl, by rw [Lib.bytesWorld_size]; omega, fun k hk => Lib.bytesWorld_at_old w e s k hk⟩)
/-- One byte behind them. -/
theorem run_mark {P : Program} (w : World) (t ty e : TypeId) (i : TypeInfo) (ht : P.underlying t = some (.slice e)) (hi : P.info? e = some i) (hz : i.zero = some (.int .u8 0)) (h1 : i.size = 1) (h2 : i.bytes = 1)
    (g n cap c : Nat) (l : List Int) (hM : Mk w g e n cap l) (X : Addr) (y : Int) (hy : w.cell? X = some (.int .u8 y)) (hl : n + 1 ≤ 140737488355328) (base : Nat) (w0 : World) (hb : Below base w0 w) (hg : base ≤ g) :
    ∃ A d w1, (Builtin.append_ #[t, t] ty #[.slice (some ⟨g, 0, none⟩) n cap, .slice (some X) 1 c]).run P w = .ok (.slice (some A) (n + 1) d) w1 ∧ Kd.C (Kd.int .u8) w1 (some A) (n + 1) (l ++ [y]) ∧ n + 1 ≤ d ∧ Below base w0 w1 := by
  obtain ⟨cur, hc, hsz, htk⟩ := hM.row
  have hlt := hM.lt
  have hnews : ∀ j v, [Value.int .u8 y][j]? = some v → w.cell? (X.add j) = some v := fun j v hv => by
    match j, hv with
    | 0, hv =>
      rw [show X.add 0 = X from by simp [Addr.add], hy]
      exact hv
  have hlen : (l ++ [y]).length = n + 1 := by rw [List.length_append, hM.len]; rfl
  by_cases hroom : n + 1 ≤ cap
  · have hfr : w.frozen? ⟨g, n, none⟩ = false := by
      simp [World.frozen?, hc]
      omega
    have hcl : w.cell? ⟨g, n, none⟩ = some (cur[n]'(by omega)) := by simp [World.cell?, hc, show n < cur.size by omega]
    have hst : (store ((⟨g, n, none⟩ : Addr).add 0) (.int .u8 y)).run P w = .ok () (w.setRow g (cur.setIfInBounds n (.int .u8 y))) := by
      rw [show (⟨g, n, none⟩ : Addr).add 0 = ⟨g, n, none⟩ from by simp [Addr.add], run_store P w _ _ _ rfl, hcl]
      simp only [hfr]
      rw [setCell_eq_setRow w g n cur e _ _ hc]
      rfl
    have hf := run_firstCells_some (P := P) w 1 1 X 1 c [.int .u8 y] rfl hnews
    have hadd : (⟨g, 0, none⟩ : Addr).add n = ⟨g, n, none⟩ := by rw [Addr.add_mid, Nat.zero_add]
    refine ⟨⟨g, 0, none⟩, cap, w.setRow g (cur.setIfInBounds n (.int .u8 y)), ?_, ?_, hroom, ?_⟩
    · simp [Builtin.append_, run_underlying ht, sizeOf, typeInfo, hi, h1, Builtin.lenOf, hroom, hf, hadd, storeCells, hst]
    · refine C_of_cells (setRow_heap w g cur _ e _ hc) ?_ hlen (by omega)
      rw [nums_append, ← htk]
      have hn : n < cur.toList.length := by rw [Array.length_toList]; omega
      rw [Array.toList_setIfInBounds, List.take_succ_eq_append_getElem (by rw [List.length_set]; exact hn), List.getElem_set_self, List.take_set_of_le (Nat.le_refl _)]
      rfl
    · exact ⟨hb.os, hb.tape, hb.output, by simpa using hb.size, fun k hk => (setRow_other w g k _ (by omega)).trans (hb.block k hk)⟩
  · have hge := grownCap_ge w (n + 1) cap e
    have holds : ∀ j v, (nums .u8 l)[j]? = some v → w.cell? ((⟨g, 0, none⟩ : Addr).add j) = some v := fun j v hv => by
      rw [Addr.add_mid, Nat.zero_add]
      have hj : j < n := by
        rcases Nat.lt_or_ge j n with h | h
        · exact h
        · rw [List.getElem?_eq_none (by simp [nums, hM.len, h])] at hv
          cases hv
      have h3 : w.cell? ⟨g, j, none⟩ = cur[j]? := by simp [World.cell?, hc]
      rw [h3, ← Array.getElem?_toList, ← List.getElem?_take_of_lt hj, htk, hv]
    have hr := run_append_grow (P := P) w t ty e i (.int .u8 0) ht hi hz ⟨g, 0, none⟩ n cap (nums .u8 l) (by rw [h1]; simp [nums, hM.len]) holds X 1 c [.int .u8 y] (by rw [h1]; rfl) hnews (by omega) (by omega) (growslice_fits (by omega) (by rw [h2]; omega))
    refine ⟨_, _, _, hr, ?_, hge, ?_⟩
    · refine C_of_cells (heap_alloc_new w.drew _) ?_ hlen (by omega)
      simp only [Array.toList_append]
      rw [show nums .u8 l ++ [Value.int .u8 y] = nums .u8 (l ++ [y]) by rw [nums_append]; rfl, List.take_left' (by simp [nums, hM.len])]
    · exact ⟨hb.os, hb.tape, hb.output, by have := hb.size; simp; omega, fun k hk => (heap_alloc_old w.drew _ (show k < w.drew.heap.size by have := hb.size; have : w.drew.heap.size = w.heap.size := rfl; omega)).trans (hb.block k hk)⟩
theorem mark_append {P : Program} {ops : Array Oper} {rest : List Oper} {o : Oper} {a : Act} {Q : Exit → Act → World → Prop} {w0 w : World} {base g e n cap : Nat} {l : List Int} (hgd : o.guard = none) (s x : Operand) (t : TypeId) (ho : o.op = .call { callee := .builtin .append, args := #[s, x], argTypes := #[t, t] })
    (ht : P.underlying t = some (.slice e)) (hinfo : (P.info? e).map (fun i => (i.zero, i.size, i.bytes)) = some (some (.int .u8 0), 1, 1)) (hs : a.eval s = .slice (some ⟨g, 0, none⟩) n cap) (hM : Mk w g e n cap l)
    (X : Addr) (c : Nat) (y : Int) (hx : a.eval x = .slice (some X) 1 c) (hy : w.cell? X = some (.int .u8 y)) (hb : Below base w0 w) (hg : base ≤ g) (hl : n + 1 ≤ 140737488355328)
    (h : ∀ A d w1, Kd.C (Kd.int .u8) w1 (some A) (n + 1) (l ++ [y]) → n + 1 ≤ d → Below base w0 w1 → wpList P ops Q rest (a.put o.dst (.slice (some A) (n + 1) d)) w1) : wpList P ops Q (o :: rest) a w := by
  refine wpList_plain hgd fun K hK => ?_
  obtain ⟨i, hi, hzz⟩ := Option.map_eq_some_iff.1 hinfo
  simp only [Prod.mk.injEq] at hzz
  obtain ⟨A, d, w1, hr, h3, h4, h5⟩ := run_mark (P := P) w t o.type e i ht hi hzz.1 hzz.2.1 hzz.2.2 g n cap c l hM X y hy hl base w0 hb hg
  unfold Oper.wp execOp
  simp only [ho, resolve, invoke, builtin, Sem.run_bind, Sem.run_pure, Result.andThen_ok, List.map_toArray, List.map_cons, List.map_nil, hs, hx, hr]
  exact hK _ _ (h A d w1 h3 h4 h5)
end Go.Proofs.YtkennblgbfhjiaaGreatDoor.H
