/- append upon a row that is full: a new row. -/
import Derived.Test.YtkennblgbfhjiaaGreatDoorHmark
set_option linter.unusedVariables false
namespace Go.Proofs.YtkennblgbfhjiaaGreatDoor.H
open Go.RowKit Go.Proofs.YtkennblgbfhjiaaGreatDoorW.PrintWords
theorem C_news {w : World} {A : Option Addr} {n : Nat} {l : List Int} (h : Kd.C (Kd.int .u8) w A n l) (hp : 0 < n) : ∃ a, A = some a ∧ ∀ j v, (nums .u8 l)[j]? = some v → w.cell? (a.add j) = some v := by
  obtain ⟨r1, r2, r3⟩ := Kd.reads_of_C (enc := Value.int .u8) (d := (0 : Int)) (h1 := fun _ => rfl) h
  obtain ⟨a, e, hc⟩ := r3 hp
  refine ⟨a, e, fun j v hv => ?_⟩
  rw [nums_getElem?] at hv
  obtain ⟨x, hx, rfl⟩ := Option.map_eq_some_iff.1 hv
  obtain ⟨hj, hx⟩ := List.getElem?_eq_some_iff.1 hx
  have := hc j (by omega)
  rwa [List.getD_eq_getElem?_getD, List.getElem?_eq_getElem hj, hx] at this
theorem app_grow {P : Program} {ops : Array Oper} {rest : List Oper} {o : Oper} {a : Act} {Q : Exit → Act → World → Prop} {w : World} {e n c m : Nat} {A B : Option Addr} {l ys : List Int} (hgd : o.guard = none) (s x : Operand) (t : TypeId) (ho : o.op = .call { callee := .builtin .append, args := #[s, x], argTypes := #[t, t] })
    (ht : P.underlying t = some (.slice e)) (hinfo : (P.info? e).map (fun i => (i.zero, i.size, i.bytes)) = some (some (.int .u8 0), 1, 1)) (hs : a.eval s = .slice A n n) (hA : Kd.C (Kd.int .u8) w A n l) (hn : 0 < n) (hx : a.eval x = .slice B m c) (hB : Kd.C (Kd.int .u8) w B m ys) (hm : 0 < m) (hl : n + m ≤ 140737488355328)
    (h : ∀ v w1, Own w1 w.heap.size e .u8 v (l ++ ys) → Below w.heap.size w w1 → wpList P ops Q rest (a.put o.dst v) w1) : wpList P ops Q (o :: rest) a w := by
  refine wpList_plain hgd fun K hK => ?_
  obtain ⟨i, hi, hzz⟩ := Option.map_eq_some_iff.1 hinfo
  simp only [Prod.mk.injEq] at hzz
  have ln : l.length = n := hA.1.symm ▸ rfl
  have ly : ys.length = m := hB.1.symm ▸ rfl
  obtain ⟨a1, rfl, c1⟩ := C_news hA hn
  obtain ⟨a2, rfl, c2⟩ := C_news hB hm
  have hr := run_append_grow (P := P) (w := w) t o.type e i (.int .u8 0) ht hi hzz.1 a1 n n (nums .u8 l) (by rw [hzz.2.1]; simp [nums, ln]) c1 a2 m c (nums .u8 ys) (by rw [hzz.2.1]; simp [nums, ly]) c2 (by omega) (by omega) (growslice_fits (by omega) (by rw [hzz.2.2]; omega))
  have hge := grownCap_ge w (n + m) n e
  have hle := grownCap_le_maxLen w (n + m) n e (by simp only [maxLen]; omega)
  unfold Oper.wp execOp
  simp only [ho, resolve, invoke, builtin, Sem.run_bind, Sem.run_pure, Result.andThen_ok, List.map_toArray, List.map_cons, List.map_nil, hs, hx, hr]
  refine hK _ _ (h _ _ ⟨by simp [nums, ln, ly], .inr ⟨w.heap.size, _, _, by rw [List.length_append, ln, ly], Nat.le_refl _, heap_alloc_new w.drew _, by rw [List.length_append, ln, ly]; exact hge, hle, ?_, ?_⟩⟩ ?_)
  · simp [nums, ln, ly, Builtin.zeroCells]
    rw [show (Value.int .u8 0).cells.size = 1 from rfl]
    omega
  · simp only [Array.toList_append]
    rw [Nat.mul_one, List.length_append, nums_append, List.take_left' (by simp [nums])]
  · exact ⟨rfl, rfl, rfl, by simp, fun k hk => heap_alloc_old w.drew _ hk⟩
end Go.Proofs.YtkennblgbfhjiaaGreatDoor.H
