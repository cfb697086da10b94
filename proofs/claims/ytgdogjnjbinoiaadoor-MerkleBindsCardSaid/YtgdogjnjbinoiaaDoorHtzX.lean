/- How many noughts a number ends with: what math/bits answers, out of its table.
   append of any slice upon a row of the call's own. -/
import Derived.Test.YtgdogjnjbinoiaaDoorDshaX
import Derived.Test.YtgdogjnjbinoiaaDoorHmem
/-! ### Htz -/
section
namespace Go.Proofs.YtgdogjnjbinoiaaDoor.Q
open Go.RowKit Go.Proofs.YtgdogjnjbinoiaaDoorW.PrintWords Go.Proofs.YtgdogjnjbinoiaaDoorW.PrintLast Go.Proofs.YtgdogjnjbinoiaaDoorW.PrintMore Go.Proofs.YtgdogjnjbinoiaaDoor.H
set_option linter.unusedVariables false
set_option linter.unusedSimpArgs false
def tabL : List Int := [0, 1, 56, 2, 57, 49, 28, 3, 61, 58, 42, 50, 38, 29, 17, 4, 62, 47, 59, 36, 45, 43, 51, 22, 53, 39, 33, 30, 24, 18, 12, 5, 63, 55, 48, 27, 60, 41, 37, 16, 46, 35, 44, 21, 52, 32, 23, 11, 54, 26, 40, 15, 34, 20, 31, 10, 25, 14, 19, 9, 13, 8, 7, 6]
/-- The table lies where the program laid it. -/
structure TabAt (w : World) : Prop where mk :: (out : ∀ j : Nat, j < 64 → w.cell? ⟨1, j, none⟩ = some (.int .u8 (rd tabL (j : Nat))))
theorem TabAt.below {w w' : World} {B : Nat} (h : TabAt w) (hb : Below B w w') (hB : w.heap.size ≤ B) : TabAt w' := ⟨fun j hj => by
  have h1 := h.out j hj
  have h2 := World.block_lt_of_cell? w _ h1
  rw [World.cell?_of_block (hb.block _ (by omega))]
  exact h1⟩
def tzF : Nat → Nat → Nat
  | 0, _ => 0
  | f + 1, n => if n % 2 = 0 then tzF f (n / 2) + 1 else 0
/-- How many noughts a number ends with. -/
def tz (n : Nat) : Nat := tzF 12 n
def ixE (n : Int) : Int := IntKind.u64.wrap (Go.bits .and .u64 n (IntKind.u64.wrap (-n)) * 285870213051353865) / 288230376151711744
theorem tz_tab : (List.range 1001).all (fun n => decide (n = 0) || decide (0 ≤ ixE (n : Nat) ∧ ixE (n : Nat) < 64 ∧ rd tabL (ixE (n : Nat)) = ((tz n : Nat) : Int))) = true := by kernel_rfl
theorem tz_at (n : Nat) (h0 : 0 < n) (h1 : n ≤ 1000) : 0 ≤ ixE (n : Nat) ∧ ixE (n : Nat) < 64 ∧ rd tabL (ixE (n : Nat)) = ((tz n : Nat) : Int) := by
  have := List.all_eq_true.mp tz_tab n (List.mem_range.mpr (by omega))
  rw [Bool.or_eq_true, decide_eq_true_eq, decide_eq_true_eq] at this
  rcases this with h | h
  · omega
  · exact h
theorem tzF_le : ∀ f n : Nat, tzF f n ≤ f
  | 0, _ => Nat.le_refl _
  | f + 1, n => by
    rw [tzF]
    split
    · have := tzF_le f (n / 2)
      omega
    · omega
set_option maxHeartbeats 1000000 in
set_option maxRecDepth 100000 in
theorem tz64_any (n : Nat) (w : World) (h0 : 0 < n) (h1 : n ≤ 1000) (ht : TabAt w) :
    Calls Tryd.prog 50 #[.int .u64 (n : Nat)] w fun e w' => e = .returned (.int .i64 (tz n : Nat)) ∧ w' = w := by
  obtain ⟨i0, i1, i2⟩ := tz_at n h0 h1
  have q0 : ((n : Int) == 0) = false := by simp; omega
  obtain ⟨ix, hix⟩ : ∃ ix : Nat, ixE (n : Nat) = ix := ⟨(ixE (n : Nat)).toNat, by omega⟩
  rw [hix] at i0 i1 i2
  have hc := ht.out ix (by omega)
  rw [i2] at hc
  have htz : tz n ≤ 12 := tzF_le 12 n
  have hix2 : IntKind.u64.wrap (Go.bits .and .u64 (n : Nat) (IntKind.u64.wrap (-((n : Nat) : Int))) * 285870213051353865) / 288230376151711744 = (ix : Nat) := hix
  have p0 : (0 ≤ (ix : Int)) = True := eq_true (by omega)
  have q1 : ((ix : Int) < 64) = True := eq_true (by omega)
  clear hix i2 h1 ht
  go_enter Tryd.func50, Tryd.ntmps50
  go_wp2
  go_ret
  exact ⟨by simp, rfl⟩
set_option maxHeartbeats 1000000 in
set_option maxRecDepth 100000 in
theorem tz_any (n : Nat) (w : World) (h0 : 0 < n) (h1 : n ≤ 1000) (ht : TabAt w) :
    Calls Tryd.prog 40 #[.int .u64 (n : Nat)] w fun e w' => e = .returned (.int .i64 (tz n : Nat)) ∧ w' = w := by
  go_enter Tryd.func40, Tryd.ntmps40
  go_wp2_with fail
  refine (tz64_any n w h0 h1 ht).mono ?_
  rintro e w2 ⟨rfl, hw⟩
  rw [hw]
  go_wp2
  go_ret
  exact ⟨rfl, rfl⟩
end Go.Proofs.YtgdogjnjbinoiaaDoor.Q
end
/-! ### Happ -/
section
set_option linter.unusedVariables false
namespace Go.Proofs.YtgdogjnjbinoiaaDoor.H
open Go.RowKit Go.Proofs.YtgdogjnjbinoiaaDoorW.PrintWords
section
variable {w w' : World} {g t : Nat}
/-- append(s, x...) where x is any slice that can be read. -/
theorem app_any {P : Program} {ops : Array Oper} {rest : List Oper} {o : Oper} {a : Act} {Q : Exit → Act → World → Prop} {base e c m : Nat} {k : IntKind} {l : List Int} {A : Option Addr} (hgd : o.guard = none) (s x : Operand) (t : TypeId) (ho : o.op = .call { callee := .builtin .append, args := #[s, x], argTypes := #[t, t] })
    (ht : P.underlying t = some (.slice e)) (bytes : Nat) (hinfo : (P.info? e).map (fun i => (i.zero, i.size, i.bytes)) = some (some (.int k 0), 1, bytes)) (v : Value) (ys : List Int) (hs : a.eval s = v) (hown : Own w base e k v l)
    (hx : a.eval x = .slice A m c) (hr : Kd.C (Kd.int k) w A m ys) (hb0 : 0 < bytes) (hl : (l.length + m) * bytes ≤ 140737488355328) (hbase : base ≤ w.heap.size)
    (h : ∀ v' w', Own w' base e k v' (l ++ ys) → w.grownBy w' v.ownBlock → (v'.ownBlock = v.ownBlock ∨ ∃ b, v'.ownBlock = some b ∧ w.heap.size ≤ b) → wpList P ops Q rest (a.put o.dst v') w') :
    wpList P ops Q (o :: rest) a w :=
  print_append_row_of (w0 := w) (Value.int k) (0 : Int) base hgd s x t e (.int k 0) bytes ho ht hinfo rfl hb0 (fun _ => rfl) v l ys A m c hs hx hown.out (Kd.reads_of_C (enc := Value.int k) (d := (0 : Int)) (h1 := fun _ => rfl) hr) (Below.refl base w) hbase hl (fun v1 w1 h1 _ h3 h4 => h v1 w1 ⟨h1⟩ h3 h4)
end
end Go.Proofs.YtgdogjnjbinoiaaDoor.H
end
