/- append of any slice upon a row of the call's own. -/
import Derived.Test.YtkennblgbfhjiaaGreatDoorHmem
set_option linter.unusedVariables false
namespace Go.Proofs.YtkennblgbfhjiaaGreatDoor.H
open Go.RowKit Go.Proofs.YtkennblgbfhjiaaGreatDoorW.PrintWords
section
variable {w w' : World} {g t : Nat}
/-- append(s, x...) where x is any slice that can be read. -/
theorem app_any {P : Program} {ops : Array Oper} {rest : List Oper} {o : Oper} {a : Act} {Q : Exit → Act → World → Prop} {base e c m : Nat} {k : IntKind} {l : List Int} {A : Option Addr} (hgd : o.guard = none) (s x : Operand) (t : TypeId) (ho : o.op = .call { callee := .builtin .append, args := #[s, x], argTypes := #[t, t] })
    (ht : P.underlying t = some (.slice e)) (bytes : Nat) (hinfo : (P.info? e).map (fun i => (i.zero, i.size, i.bytes)) = some (some (.int k 0), 1, bytes)) (v : Value) (ys : List Int) (hs : a.eval s = v) (hown : Own w base e k v l)
    (hx : a.eval x = .slice A m c) (hr : Kd.C (Kd.int k) w A m ys) (hb0 : 0 < bytes) (hl : (l.length + m) * bytes ≤ 140737488355328) (hbase : base ≤ w.heap.size)
    (h : ∀ v' w', Own w' base e k v' (l ++ ys) → w.grownBy w' v.ownBlock → (v'.ownBlock = v.ownBlock ∨ ∃ b, v'.ownBlock = some b ∧ w.heap.size ≤ b) → wpList P ops Q rest (a.put o.dst v') w') :
    wpList P ops Q (o :: rest) a w :=
  print_append_row_of (w0 := w) (Value.int k) (0 : Int) base hgd s x t e (.int k 0) bytes ho ht hinfo rfl hb0 (fun _ => rfl) v l ys A m c hs hx hown.out (Kd.reads_of_C (enc := Value.int k) (d := (0 : Int)) (h1 := fun _ => rfl) hr) (Below.refl base w) hbase hl (fun v1 w1 h1 _ h3 h4 => h v1 w1 ⟨h1⟩ h3 h4)
end
end Go.Proofs.YtkennblgbfhjiaaGreatDoor.H
