import Derived.Test.YtkennblgbfhjiaaGreatDoorPhmac
import Derived.Test.YtkennblgbfhjiaaGreatDoorB7
import Derived.Test.YtkennblgbfhjiaaGreatDoorHapp
namespace Go.Proofs.YtkennblgbfhjiaaGreatDoor.Q
open Go.RowKit Go.Proofs.YtkennblgbfhjiaaGreatDoorW.PrintWords Go.Proofs.YtkennblgbfhjiaaGreatDoorW.PrintLast Go.Proofs.YtkennblgbfhjiaaGreatDoorW.PrintMore Go.Proofs.YtkennblgbfhjiaaGreatDoor.H
set_option linter.unusedVariables false
set_option linter.unusedSimpArgs false
theorem slice_all0 (w : World) (g : Nat) : (Instr.sliceAt 188 (.pointer (some ⟨g, 0, none⟩)) none none none).run Tryz.prog w = .ok (.slice (some ⟨g, 0, none⟩) 64 64) w := by
  have ha : Tryz.prog.underlying 188 = some (.array (Tryz.prog.arrayLen 188) (Tryz.prog.elem 188)) := by kernel_rfl
  have hl : Tryz.prog.arrayLen 188 = 64 := by kernel_rfl
  have hs : (sizeOf (Tryz.prog.elem 188)).run Tryz.prog w = .ok 1 w := by kernel_rfl
  rw [run_sliceAt_array_all w _ _ ha, hs, hl]
  simp [Result.andThen, slicedAt, Addr.add_mid]
theorem far_of {k : IntKind} {A : Option Addr} {l : List Int} {w : World} {g : Nat} (h : Kd.C (Kd.int k) w A l.length l) (hg : w.heap.size ≤ g) : l.length = 0 ∨ ∀ ad, A = some ad → some ad.block ≠ some g := by
  rcases C_old h with h | h
  · exact .inl h
  · right
    intro ad e h2
    have := h ad e
    have h2 := Option.some.inj h2
    omega
theorem cell_block {w w' : World} {g : Nat} (h : w'.heap[g]? = w.heap[g]?) (i : Nat) : w'.cell? ⟨g, i, none⟩ = w.cell? ⟨g, i, none⟩ := by simp only [World.cell?, h]
theorem flat_len (bs : List (List Int)) (j : Nat) (h : j < bs.length) : (bs.take j).flatten.length + (bs[j]).length ≤ bs.flatten.length := by
  have h1 : bs.flatten = (bs.take (j + 1)).flatten ++ (bs.drop (j + 1)).flatten := by rw [← List.flatten_append, List.take_append_drop]
  have h2 : (bs.take (j + 1)).flatten = (bs.take j).flatten ++ bs[j] := by
    rw [List.take_succ_eq_append_getElem h, List.flatten_append]
    simp
  rw [h1, h2, List.length_append, List.length_append]
  omega
/-- A row of slices of bytes, each of which can be read. -/
structure Lists (w : World) (g : Nat) (bs : List (List Int)) : Prop where
  at_ : ∀ j, (h : j < bs.length) → ∃ A c, w.cell? ⟨g, j, none⟩ = some (.slice A (bs[j]).length c) ∧ Kd.C (Kd.int .u8) w A (bs[j]).length bs[j] ∧ (bs[j]).length ≤ c
theorem take_flat (bs : List (List Int)) (j : Nat) (h : j < bs.length) : (bs.take (j + 1)).flatten = (bs.take j).flatten ++ bs[j] := by
  rw [List.take_succ_eq_append_getElem h, List.flatten_append]
  simp
set_option maxHeartbeats 1000000 in
set_option maxRecDepth 100000 in
theorem summed_any (K : List Int) (x : Int) (gl n cl : Nat) (bs : List (List Int)) (w : World) (hK : K.length = 64) (hl : Lists w gl bs) (hgl : gl < w.heap.size) (hn : bs.length = n) (hm : bs.flatten.length ≤ 274877906944) (hm2 : n ≤ 1000000) :
    Calls Tryz.prog 188 #[.agg (nums .u8 K).toArray, .int .u8 x, .slice (some ⟨gl, 0, none⟩) n cl] w fun e w' => ∃ v, e = .returned v ∧ Own w' w.heap.size 5 .u8 v (summedW K x bs) ∧ Below w.heap.size w w' := by
  have HL := Aside0.mk hl
  have HK := Aside0.mk hK
  have HN := Aside0.mk hn
  clear hl hK hn
  go_enter Tryz.func188, Tryz.ntmps188
  go_wp2
  have B0 := Aside0.mk ((Blk.at0 w 188 .u8 K _ rfl).alloc (.cells Tryz.zeroCells190 190))
  have H0 := Aside0.mk (HashRep.at0 (w.alloc (.cells (nums .u8 K).toArray 188)) Tryz.zeroCells190 (by rfl))
  have L0 := Aside0.mk (((Below.refl w.heap.size w).alloc (Nat.le_refl _) (.cells (nums .u8 K).toArray 188)).alloc (by simp) (.cells Tryz.zeroCells190 190))
  simp only [World.size_alloc] at H0
  have hz0 : w.heap.size + 2 ≤ ((w.alloc (.cells (nums .u8 K).toArray 188)).alloc (.cells Tryz.zeroCells190 190)).heap.size := by simp
  generalize (w.alloc (.cells (nums .u8 K).toArray 188)).alloc (.cells Tryz.zeroCells190 190) = w0 at B0 H0 L0 hz0 ⊢
  go_loopw [8, 13] (fun v i wr => ∃ k : Nat, k ≤ 64 ∧ i = .int .i64 k ∧ Aside0 (Blk wr w.heap.size 188 .u8 (xorN K x k)) ∧ Aside0 (HashRep wr (w.heap.size + 1) []) ∧ Aside0 (Below w.heap.size w wr) ∧ w.heap.size + 2 ≤ wr.heap.size) (fun _ i _ => 64 - (intOf i).toNat)
  case atStart => exact ⟨0, by omega, rfl, B0, H0, L0, hz0⟩
  case round =>
    clear B0 H0 L0 hz0
    obtain ⟨k, hk, rfl, B0, H0, L0, hz0⟩ := hrel
    by_cases hlt : k < 64
    · have q0 : ((k : Int) < 64) = True := eq_true (by omega)
      have c0 := B0.out.cellN k (by rw [xorN_length, HK.out]; exact hlt)
      have f0 := B0.out.frozen k
      change wr.cell? _ = some (.int .u8 (rd (xorN K x k) k)) at c0
      go_wp2
      exact ⟨⟨k + 1, by omega, by go_num, ⟨B0.out.set k _⟩, ⟨H0.out.grown (grown_set wr w.heap.size k _) (by intro h; have h := Option.some.inj h; omega)⟩, ⟨L0.out.setCell (Nat.le_refl _) _⟩, by simp; omega⟩, by simp [intOf]; omega⟩
    · obtain rfl : k = 64 := by omega
      have q0 : (((64 : Nat) : Int) < 64) = False := eq_false (by omega)
      have hxl : (xorN K x 64).length = 64 := by rw [xorN_length]; exact HK.out
      obtain ⟨X, hX⟩ : ∃ X, X = xorN K x 64 := ⟨_, rfl⟩
      rw [← hX] at B0 hxl
      replace hX := Aside0.mk hX
      have hall := slice_all0 wr w.heap.size
      go_wp2_with fail
      have hcall := write_any (w.heap.size + 1) (some ⟨w.heap.size, 0, none⟩) 64 [] X wr H0.out (Bk.readsC (w := wr) (g := w.heap.size) (t := 188) (cs := nums .u8 X) ⟨B0.out.out⟩ 0 X (fun j _ => by rw [Nat.zero_add]) (by omega)) (by omega) (Or.inr (by intro ad h; cases h; intro h; have h := Option.some.inj h; change w.heap.size = w.heap.size + 1 at h; omega)) (by simp; omega)
      rw [hxl] at hcall
      refine hcall.mono ?_
      rintro e w1 ⟨rfl, H1, G1⟩
      have L1 := Aside0.mk (L0.out.grown G1 L0.out.size (fun k hk => by injection hk with hk; omega))
      have hz1 : w.heap.size + 2 ≤ w1.heap.size := Nat.le_trans hz0 G1.size
      replace H1 := Aside0.mk H1.rep
      rw [List.nil_append] at H1
      clear G1 hcall hall B0 H0 L0 hz0
      go_wp2
      go_loopw [10, 28] (fun v i wr => ∃ j : Nat, j ≤ n ∧ i = .int .i64 j ∧ Aside0 (HashRep wr (w.heap.size + 1) (X ++ (bs.take j).flatten)) ∧ Aside0 (Below w.heap.size w wr) ∧ w.heap.size + 2 ≤ wr.heap.size) (fun _ i _ => n - (intOf i).toNat)
      case atStart => exact ⟨0, by omega, rfl, ⟨by simpa using H1.out⟩, L1, hz1⟩
      case round =>
        clear H1 L1 hz1
        obtain ⟨j, hj, rfl, H1, L1, hz1⟩ := hrel
        by_cases hlt2 : j < n
        · have q1 : ((j : Int) < (n : Int)) = True := eq_true (by omega)
          have hjb : j < bs.length := by rw [HN.out]; exact hlt2
          obtain ⟨A, c, hcell, hC, hcc⟩ := HL.out.at_ j hjb
          have hcell2 := (cell_block (L1.out.block gl hgl) j).trans hcell
          clear hcell
          have hfl := flat_len bs j hjb
          have htf := Aside0.mk (take_flat bs j hjb)
          replace hC := Aside0.mk hC
          generalize bs[j] = y at *
          go_wp2_with fail
          refine (write_any (w.heap.size + 1) A c (X ++ (bs.take j).flatten) y _ H1.out (Kd.C_below hC.out L1.out) hcc (far_of hC.out (by omega)) (by rw [List.length_append, hxl]; omega)).mono ?_
          rintro e w2 ⟨rfl, H2, G2⟩
          have L2 := Aside0.mk (L1.out.grown G2 L1.out.size (fun k hk => by injection hk with hk; omega))
          have hz2 : w.heap.size + 2 ≤ w2.heap.size := Nat.le_trans hz1 G2.size
          replace H2 := Aside0.mk H2.rep
          clear G2
          go_wp2
          exact ⟨⟨j + 1, by omega, by go_num, ⟨by rw [htf.out, ← List.append_assoc]; exact H2.out⟩, L2, hz2⟩, by simp [intOf]; omega⟩
        · obtain rfl : j = n := by omega
          have q1 : ((j : Int) < (j : Int)) = False := eq_false (by omega)
          have hall2 := Aside0.mk (show bs.take j = bs from List.take_of_length_le (by rw [HN.out]; exact Nat.le_refl _))
          rw [hall2.out] at H1
          go_wp2_with fail
          refine (hashsum_any (w.heap.size + 1) (X ++ bs.flatten) _ H1.out (by rw [List.length_append, hxl]; omega)).mono ?_
          rintro e w2 ⟨v, rfl, O2, L2⟩
          have L3 := Aside0.mk (below_then L1.out L1.out.size L2)
          replace O2 := Aside0.mk (O2.lower L1.out.size)
          clear L2
          go_wp2
          go_ret
          exact ⟨_, rfl, by rw [summedW, ← hX.out]; exact O2.out, L3.out⟩
end Go.Proofs.YtkennblgbfhjiaaGreatDoor.Q
