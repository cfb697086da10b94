import Derived.Test.YtllaobhheokafaaPpoly
import Derived.Test.YtllaobhheokafaaC0
import Derived.Test.YtllaobhheokafaaHmem
import Derived.Test.YtllaobhheokafaaP2
import Derived.Test.YtllaobhheokafaaP4
import Derived.Test.YtllaobhheokafaaP6
import Derived.Test.YtllaobhheokafaaP7
import Derived.Test.YtllaobhheokafaaP8
namespace Go.Proofs.Ytllaobhheokafaa.Q
open Go.RowKit Go.Proofs.YtllaobhheokafaaW.PrintWords Go.Proofs.YtllaobhheokafaaW.PrintLast Go.Proofs.YtllaobhheokafaaW.PrintMore Go.Proofs.Ytllaobhheokafaa.H
attribute [local go_sem] max2_int min2_int max_two min_two
set_option linter.unusedVariables false
set_option linter.unusedSimpArgs false
def poly_mac9.T9 : Bool × List (List Nat × List Nat) := (true, [([], []), ([], []), ([], []), ([], []), ([1, 2, 3], [1, 2, 3]), ([0, 4], [0, 4]), ([], []), ([5, 6, 5], [5, 6]), ([7, 7], [7]), ([], []), ([9, 8, 8, 0, 1, 2, 3, 4, 5, 6, 7, 8, 9], [8, 9])])
def poly_mac9.B9 : List Nat := [0, 0, 0, 0, 14, 31, 0, 127, 255, 0, 1023]
theorem poly_mac9.tab9 : rtab .any (opsOf Try.f29 9) = poly_mac9.T9 := by kernel_rfl
theorem poly_mac9.bits9 : waitsOk poly_mac9.T9.2 poly_mac9.B9 = true := by kernel_rfl
def poly_mac10.T10 : Bool × List (List Nat × List Nat) := (true, [([], []), ([], []), ([0, 1], [0, 1]), ([], []), ([2, 3, 2], [2, 3]), ([4, 4, 0, 1, 2, 3, 4], [4])])
def poly_mac10.B10 : List Nat := [0, 0, 3, 0, 15, 31]
theorem poly_mac10.tab10 : rtab .any (opsOf Try.f29 10) = poly_mac10.T10 := by kernel_rfl
theorem poly_mac10.bits10 : waitsOk poly_mac10.T10.2 poly_mac10.B10 = true := by kernel_rfl
theorem own_lt {w : World} {b e : Nat} {k : IntKind} {v : Value} {l : List Int} (h : Own w b e k v l) : ∀ g, v.ownBlock = some g → g < w.heap.size := fun g' e' => by
  rcases h.out.2 with ⟨rfl, _⟩ | ⟨g, cap, cur, rfl, _, hgb, _⟩
  · cases e'
  · obtain rfl : g = g' := by simpa [Value.ownBlock] using e'
    exact (Array.getElem?_eq_some_iff.1 hgb).1
/-- What is known on the way through the making of a piece: the row that grows, the row of the byte 1, the new number's block. -/
structure MSt (w0 : World) (z : Nat) (o : Option (Value × List Int)) (p6 p9 : Option Nat) (W : World) : Prop where
  z0 : z = w0.heap.size
  bel : Below z w0 W
  own : ∀ v l, o = some (v, l) → Own W z 5 .u8 v l
  b6 : ∀ g, p6 = some g → Blk W g 5 .u8 [1] ∧ ∀ v l, o = some (v, l) → some g ≠ v.ownBlock
  b9 : ∀ g, p9 = some g → z ≤ g ∧ Blk W g 58 .u64 (List.replicate 5 0) ∧ ∀ v l, o = some (v, l) → some g ≠ v.ownBlock
theorem MSt.size {w0 : World} {z : Nat} {o : Option (Value × List Int)} {p6 p9 : Option Nat} {W : World} (h : MSt w0 z o p6 p9 W) : z ≤ W.heap.size := by
  have := h.bel.size
  rw [h.z0]
  exact this
theorem MSt.make {w0 : World} {z : Nat} {p6 p9 : Option Nat} {W : World} (h : MSt w0 z none p6 p9 W) : MSt w0 z (some (.slice (some ⟨W.heap.size, 0, none⟩) 0 17, [])) p6 p9 (W.alloc (.cells (nums .u8 (List.replicate 17 0)).toArray 5)) := by
  refine ⟨h.z0, h.bel.alloc h.size _, fun v l e => ?_, fun g e => ?_, fun g e => ?_⟩
  · cases e
    exact Own.room W z 5 .u8 17 h.size (by decide)
  · obtain ⟨h1, h2⟩ := h.b6 g e
    refine ⟨h1.alloc _, fun v l e2 => ?_⟩
    cases e2
    have := h1.lt
    simp [Value.ownBlock]
    omega
  · obtain ⟨h0, h1, h2⟩ := h.b9 g e
    refine ⟨h0, h1.alloc _, fun v l e2 => ?_⟩
    cases e2
    have := h1.lt
    simp [Value.ownBlock]
    omega
theorem MSt.build {w0 : World} {z : Nat} {o : Option (Value × List Int)} {p9 : Option Nat} {W : World} (h : MSt w0 z o none p9 W) : MSt w0 z o (some W.heap.size) p9 (W.alloc (.cells #[.int .u8 1] 5)) := by
  refine ⟨h.z0, h.bel.alloc h.size _, fun v l e => (h.own v l e).alloc _, fun g e => ?_, fun g e => ?_⟩
  · cases e
    refine ⟨Blk.at0 W _ _ [1] _ rfl, fun v l e2 e3 => ?_⟩
    have := own_lt (h.own v l e2) _ e3.symm
    omega
  · obtain ⟨h0, h1, h2⟩ := h.b9 g e
    exact ⟨h0, h1.alloc _, h2⟩
theorem MSt.lay {w0 : World} {z : Nat} {o : Option (Value × List Int)} {p6 : Option Nat} {W : World} (h : MSt w0 z o p6 none W) : MSt w0 z o p6 (some W.heap.size) (W.alloc (.cells (nums .u64 (List.replicate 5 0)).toArray 58)) := by
  refine ⟨h.z0, h.bel.alloc h.size _, fun v l e => (h.own v l e).alloc _, fun g e => ?_, fun g e => ?_⟩
  · obtain ⟨h1, h2⟩ := h.b6 g e
    exact ⟨h1.alloc _, h2⟩
  · cases e
    refine ⟨h.size, Blk.at0 W _ _ _ _ rfl, fun v l e2 e3 => ?_⟩
    have := own_lt (h.own v l e2) _ e3.symm
    omega
theorem MSt.app {w0 : World} {z : Nat} {v v' : Value} {l l' : List Int} {p6 p9 : Option Nat} {W W' : World} (h : MSt w0 z (some (v, l)) p6 p9 W) (hown : Own W' z 5 .u8 v' l') (hg : W.grownBy W' v.ownBlock) (hat : v'.ownBlock = v.ownBlock ∨ v'.ownBlock = some W.heap.size) : MSt w0 z (some (v', l')) p6 p9 W' := by
  refine ⟨h.z0, h.bel.grown hg h.size (own_base (h.own v l rfl).out), fun v2 l2 e => ?_, fun g e => ?_, fun g e => ?_⟩
  · cases e
    exact hown
  · obtain ⟨h1, h2⟩ := h.b6 g e
    refine ⟨h1.grown hg (h2 v l rfl), fun v2 l2 e2 e3 => ?_⟩
    cases e2
    rcases hat with hat | hat
    · exact h2 v l rfl (e3.trans hat)
    · have := h1.lt
      have := Option.some.inj (e3.trans hat)
      omega
  · obtain ⟨h0, h1, h2⟩ := h.b9 g e
    refine ⟨h0, h1.grown hg (h2 v l rfl), fun v2 l2 e2 e3 => ?_⟩
    cases e2
    rcases hat with hat | hat
    · exact h2 v l rfl (e3.trans hat)
    · have := h1.lt
      have := Option.some.inj (e3.trans hat)
      omega
theorem MSt.call {w0 : World} {z : Nat} {o : Option (Value × List Int)} {p6 p9 : Option Nat} {W W' : World} (h : MSt w0 z o p6 p9 W) (hb : Below W.heap.size W W') : MSt w0 z o p6 p9 W' :=
  ⟨h.z0, h.bel.trans (hb.mono h.size), fun v l e => (h.own v l e).below hb, fun g e => ⟨(h.b6 g e).1.below hb, (h.b6 g e).2⟩, fun g e => ⟨(h.b9 g e).1, (h.b9 g e).2.1.below hb, (h.b9 g e).2.2⟩⟩
/-- append of a row upon a row of one's own, as one step of a region that draws its order. -/
theorem app_step {P : Program} {ops : Array Oper} {oi : Oper} {N : Option Tmp} {a : Act} {w : World} {K : Act → World → Prop} {Q : Exit → Act → World → Prop} {base e m c : Nat} {k : IntKind} {l ys : List Int} (hw : Region.wanted oi (yielded ops a.tmps) = true) (hN : oi.dst = N) (s x : Operand) (t : TypeId) (ho : oi.op = .call { callee := .builtin .append, args := #[s, x], argTypes := #[t, t] })
    (ht : P.underlying t = some (.slice e)) (bytes : Nat) (hinfo : (P.info? e).map (fun i => (i.zero, i.size, i.bytes)) = some (some (.int k 0), 1, bytes)) (v : Value) (hs : a.eval s = v) (hown : Own w base e k v l) (ad : Addr) (hx : a.eval x = .slice (some ad) m c) (hm : ys.length = m) (hr : ∀ j u, (nums k ys)[j]? = some u → w.cell? (ad.add j) = some u)
    (h63 : l.length + m ≤ maxLen) (hb : (l.length + m) * bytes ≤ 140737488355328) (hbase : base ≤ w.heap.size)
    (h : ∀ v' w', Own w' base e k v' (l ++ ys) → w.grownBy w' v.ownBlock → (v'.ownBlock = v.ownBlock ∨ v'.ownBlock = some w.heap.size) → K (a.put N v') w') :
    if Region.wanted oi (yielded ops a.tmps) = true then Oper.wp P oi a w K Q else K (a.put N undef) w := by
  obtain ⟨i0, hi0, hz0, hz1, hz2⟩ := info_parts hinfo
  obtain ⟨v', w', hrun, h2, h3, _, h5⟩ := run_append_own_at (P := P) (w := w) base t oi.type e i0 (.int k 0) 1 bytes ht hi0 hz0 hz1 hz2 rfl (by decide) v l.length (nums k l) hown.out ad m c (nums k ys) (by rw [nums_len]; omega) hr oneCell_nums h63 hb hbase
  refine value_ hw hN (w1 := w') (v := v') ?_ (h v' w' ⟨?_⟩ h3 h5)
  · unfold execOp
    simp only [ho, resolve, invoke, builtin, Sem.run_bind, Sem.run_pure, Result.andThen_ok, List.map_toArray, List.map_cons, List.map_nil, hs, hx, hrun]
  · rw [show nums k (l ++ ys) = nums k l ++ nums k ys by simp [nums], List.length_append, hm]
    exact h2
theorem MSt.start (w : World) : MSt w w.heap.size none none none w := ⟨rfl, Below.refl _ _, (fun v l e => by cases e), (fun g e => by cases e), (fun g e => by cases e)⟩
theorem one_cells6 {W : World} {g t : Nat} (h : Blk W g t .u8 [1]) (j : Nat) (u : Value) (hu : (nums .u8 [1])[j]? = some u) : W.cell? ((⟨g, 0, none⟩ : Addr).add j) = some u := by
  match j with
  | 0 =>
    have h1 := h.cellN 0 (by decide)
    cases hu
    exact h1
  | j + 1 => simp [nums] at hu
theorem cells_lt {W : World} {ad : Addr} {j : Nat} {u : Value} (h : W.cell? (ad.add j) = some u) : (ad.add j).block < W.heap.size := World.block_lt_of_cell? W _ h
set_option maxHeartbeats 4000000 in
set_option maxRecDepth 100000 in
theorem pmac_any (A0 : Option Addr) (c0 : Nat) (key : List Int) (A1 : Option Addr) (c1 : Nat) (b : List Int) (w : World) (hr0 : Kd.C (Kd.int .u8) w A0 key.length key) (hc0 : key.length ≤ c0) (hr1 : Kd.C (Kd.int .u8) w A1 b.length b) (hc1 : b.length ≤ c1)
    (h32 : key.length = 32) (hm : b.length ≤ 274877906944) (ho1 : ∀ k : Nat, k < (clampB key).length → 0 < ofV (clampB key) k / 67108864 → 8 * k / 26 + 1 < 5) (ho2 : ∀ k : Nat, k < (key.drop 16).length → 0 < ofV (key.drop 16) k / 67108864 → 8 * k / 26 + 1 < 5)
    (ho3 : ∀ m k : Nat, k < (pieceL b m ++ [1]).length → 0 < ofV (pieceL b m ++ [1]) k / 67108864 → 8 * k / 26 + 1 < 5) :
    Calls Try.prog 29 #[.slice A0 key.length c0, .slice A1 b.length c1] w fun e w' => ∃ v, e = .returned (.tuple #[v, .int .i64 0]) ∧ Own w' w.heap.size 5 .u8 v (macP key b) ∧ Below w.heap.size w w' := by
  have HK := Aside0.mk hr0
  have HBB := Aside0.mk hr1
  have q0 : ((key.length : Int) != 32) = false := by simp; omega
  have H32 := Aside0.mk h32
  have HO1 := Aside0.mk ho1
  have HO2 := Aside0.mk ho2
  have HO3 := Aside0.mk ho3
  have hmk : ∀ w : World, (Instr.makeSlice 28 (.int .i64 0) (.int .i64 17)).run Try.prog w = .ok (.slice (some ⟨w.heap.size, 0, none⟩) 0 17) (w.alloc (.cells (nums .u8 (List.replicate 17 0)).toArray 5)) := fun _ => by kernel_rfl
  clear hr0 hr1 h32 ho1 ho2 ho3
  go_enter Try.func29, Try.ntmps29
  go_wp2_with fail
  refine (clamped_any A0 c0 key w HK.out hc0 H32.out HO1.out).mono ?_
  rintro e w1 ⟨rfl, l1⟩
  obtain ⟨r, hr⟩ : ∃ r, r = ofW (clampB key) := ⟨_, rfl⟩
  have hrl : r.length = 5 := by rw [hr]; exact ofW_length _
  rw [← hr]
  replace hr := Aside0.mk hr
  have L1 := Aside0.mk l1
  have hz1 := l1.size
  clear l1
  go_wp2_with (refine store_blk rfl _ _ _ rfl rfl r rfl (Blk.at0 w1 58 .u64 (List.replicate 5 0) _ rfl) 5 (by kernel_rfl) rfl hrl ?_; intro w2 R2 g2 z2; have L2 := Aside0.mk ((L1.out.alloc hz1 (.cells (nums .u64 (List.replicate 5 0)).toArray 58)).grown g2 (by simp; omega) (by simp; omega)); have hz2 : w1.heap.size < w2.heap.size := R2.lt; replace R2 := Aside0.mk R2; clear g2 z2)
  have R3 := Aside0.mk (R2.out.alloc (.cells (nums .u64 (List.replicate 5 0)).toArray 58))
  have A3 := Aside0.mk (Blk.at0 w2 58 .u64 (List.replicate 5 0) _ rfl)
  have L3 := Aside0.mk (L2.out.alloc (by omega) (.cells (nums .u64 (List.replicate 5 0)).toArray 58))
  have HRL := Aside0.mk hrl
  have HM := Aside0.mk hm
  clear R2 L2 hrl hm
  obtain ⟨gr, hgr⟩ : ∃ gr, gr = w1.heap.size := ⟨_, rfl⟩
  obtain ⟨ga, hga⟩ : ∃ ga, ga = w2.heap.size := ⟨_, rfl⟩
  rw [← hgr] at R3 hz2 ⊢
  rw [← hga] at A3 hz2 ⊢
  have hgw : w.heap.size ≤ gr := by omega
  clear hgr hga hz1 L1
  go_loopw [8] (fun i wr => ∃ p k : Nat, p = 16 * k ∧ p < b.length + 16 ∧ i = .int .i64 p ∧ Aside0 (Blk wr gr 58 .u64 r) ∧ Aside0 (Blk wr ga 58 .u64 (accI r b k)) ∧ Aside0 (Below w.heap.size w wr)) (fun i _ => b.length + 16 - (intOf i).toNat)
  case atStart => exact ⟨0, 0, rfl, by omega, rfl, R3, A3, L3⟩
  case round =>
    clear R3 A3 L3
    obtain ⟨p, k, hp, hpb, rfl, HR0, HA0, HB0⟩ := hrel
    by_cases hlt : p < b.length
    · have p0 : (0 ≤ (p : Int)) = True := eq_true (by omega)
      have q1 : ((p : Int) < (b.length : Int)) = True := eq_true (by omega)
      have hpm : p < 274877906944 := by have := HM.out; omega
      obtain ⟨ev, hev⟩ : ∃ ev : Int, (if (b.length : Int) < (p : Int) + 16 then (b.length : Int) else (p : Int) + 16) = ev := ⟨_, rfl⟩
      have he1 : (p : Int) < ev := by rw [← hev]; split <;> omega
      have he2 : ev ≤ (b.length : Int) := by rw [← hev]; split <;> omega
      have he3 : ev ≤ (p : Int) + 16 := by rw [← hev]; split <;> omega
      have he4 : b.take ev.toNat = b.take (p + 16) := by
        rw [← hev]
        split
        · rw [Int.toNat_natCast, List.take_of_length_le (Nat.le_refl _), List.take_of_length_le (by omega)]
        · congr 1
      obtain ⟨i0, hi0, _, hsz0, _⟩ := info_parts info5
      obtain ⟨Ap, hcut, hrdp, hclp⟩ := print_mid_of (P := Try.prog) (Value.int .u8) 0 28 5 .i64 .i64 Try.underlying28 hi0 hsz0 A1 c1 b (p : Int) ev (by omega) (by omega) he2 hc1
      have hCp := Kd.C_of_reads (enc := Value.int .u8) (d := (0 : Int)) (h1 := fun _ => rfl) (hrdp wr (Kd.reads_of_C (enc := Value.int .u8) (d := (0 : Int)) (h1 := fun _ => rfl) (Kd.C_below HBB.out HB0.out)))
      rw [he4, Int.toNat_natCast] at hcut hCp hclp
      obtain ⟨pc, hpc⟩ : ∃ pc, pc = (b.take (p + 16)).drop p := ⟨_, rfl⟩
      rw [← hpc] at hcut hCp hclp
      have hpk : pc = pieceL b k := by rw [hpc, hp]; rfl
      have hpl1 : 0 < pc.length := by rw [hpc, List.length_drop, List.length_take]; omega
      have hpl2 : pc.length ≤ 16 := by rw [hpc, List.length_drop, List.length_take]; omega
      obtain ⟨adp, rfl, hcells⟩ := C_cells hCp hpl1
      have hroom := Aside0.mk (HO3.out k)
      rw [← hpk] at hroom
      have pcl := Aside0.mk hpl2
      have HPK := Aside0.mk hpk
      have HP := Aside0.mk hp
      have HBd := Aside0.mk (show Below w.heap.size w wr.drew from HB0.out.drew)
      have HAd := Aside0.mk HA0.out.drew
      have HRd := Aside0.mk HR0.out.drew
      have HPC := Aside0.mk (show ∀ j u, (nums .u8 pc)[j]? = some u → wr.drew.cell? (adp.add j) = some u from hcells)
      have hgz : gr < wr.drew.heap.size ∧ ga < wr.drew.heap.size := ⟨HRd.out.lt, HAd.out.lt⟩
      replace hgz := Aside0.mk hgz
      clear hrdp hCp hcells hpc hpk hpl1 hpl2 he4 hp HA0 HR0 HB0
      go_wp2
      refine start_ (n := 11) (S := fun _ => True) (ds := [10]) #[false, false, false, false, false, false, false, false, false, false, false] (by kernel_rfl) rfl rfl trivial (fun hHeld => ?_)
      refine with_tabW poly_mac9.tab9 poly_mac9.bits9 (fun HT_ HW_ => ?_)
      generalize wr.drew = w0 at HBd HAd HRd HPC hgz ⊢
      have HS0 := Aside0.mk (MSt.start w0)
      refine pure_ (i := 1) (N := some 30) (v := ?_) (a' := ?_) #[false, true, false, false, false, false, false, false, false, false, false] rfl rfl (any_of HT_.out (by kernel_rfl)) (fun _ _ _ h => h) (Or.inl ⟨by rfl, ?_⟩) ?_ ?_
      rotate_left
      · intro w'
        go_simp
        with_reducible rfl
      rotate_left
      · simp only [Act.put, List.setIfInBounds_toArray, List.set_cons_zero, List.set_cons_succ, i64_w, i32_w]
        rfl
      refine pure_ (i := 2) (N := some 31) (v := ?_) (a' := ?_) #[false, true, true, false, false, false, false, false, false, false, false] rfl rfl (any_of HT_.out (by kernel_rfl)) (fun _ _ _ h => h) (Or.inl ⟨by rfl, ?_⟩) ?_ ?_
      rotate_left
      · intro w'
        go_simp
        with_reducible rfl
      rotate_left
      · simp only [Act.put, List.setIfInBounds_toArray, List.set_cons_zero, List.set_cons_succ, i64_w, i32_w]
        rfl
      refine pure_ (i := 3) (N := some 32) (v := ?_) (a' := ?_) #[false, true, true, true, false, false, false, false, false, false, false] rfl rfl (any_of HT_.out (by kernel_rfl)) (fun _ _ _ h => h) (Or.inl ⟨by rfl, ?_⟩) ?_ ?_
      rotate_left
      · intro w'
        go_simp
        with_reducible rfl
      rotate_left
      · simp only [Act.put, List.setIfInBounds_toArray, List.set_cons_zero, List.set_cons_succ, i64_w, i32_w]
        rfl
      refine pure_ (i := 4) (N := some 33) (v := ?_) (a' := ?_) #[false, true, true, true, true, false, false, false, false, false, false] rfl rfl (any_of HT_.out (by kernel_rfl)) (fun _ _ _ h => h) (Or.inl ⟨by rfl, ?_⟩) ?_ ?_
      rotate_left
      · intro w'
        go_simp
        with_reducible rfl
      rotate_left
      · simp only [Act.put, List.setIfInBounds_toArray, List.set_cons_zero, List.set_cons_succ, i64_w, i32_w]
        rfl
      refine join_ (σ := Value × Value × Value × Nat × Nat) 1 #[true, true, true, true, true, true, true, true, true, true, false] (fun s => [(29, s.1), (34, s.2.1), (35, .slice (some ⟨s.2.2.2.1, 0, none⟩) 1 1), (36, s.2.2.1), (37, .agg (nums .u64 (ofW (pc ++ [1]))).toArray), (10, .pointer (some ⟨s.2.2.2.2, 0, none⟩))]) (fun s W => Aside0 (MSt w0 w0.heap.size (some (s.2.2.1, pc ++ [1])) (some s.2.2.2.1) (some s.2.2.2.2) W)) ?_ ?_
      rotate_left
      · intro hJ0_5_6_7_8_9
        refine join_ (σ := Value × Value × Value × Nat × Nat) 2 #[true, true, true, true, true, true, true, true, true, false, false] (fun s => [(29, s.1), (34, s.2.1), (35, .slice (some ⟨s.2.2.2.1, 0, none⟩) 1 1), (36, s.2.2.1), (37, .agg (nums .u64 (ofW (pc ++ [1]))).toArray)]) (fun s W => Aside0 (MSt w0 w0.heap.size (some (s.2.2.1, pc ++ [1])) (some s.2.2.2.1) none W)) ?_ ?_
        rotate_left
        · intro hJ0_5_6_7_8
          refine join_ (σ := Value × Value × Value × Nat × Nat) 2 #[true, true, true, true, true, true, true, true, false, true, false] (fun s => [(29, s.1), (34, s.2.1), (35, .slice (some ⟨s.2.2.2.1, 0, none⟩) 1 1), (36, s.2.2.1), (10, .pointer (some ⟨s.2.2.2.2, 0, none⟩))]) (fun s W => Aside0 (MSt w0 w0.heap.size (some (s.2.2.1, pc ++ [1])) (some s.2.2.2.1) (some s.2.2.2.2) W)) ?_ ?_
          rotate_left
          · intro hJ0_5_6_7_9
            refine join_ (σ := Value × Value × Value × Nat × Nat) 3 #[true, true, true, true, true, true, true, true, false, false, false] (fun s => [(29, s.1), (34, s.2.1), (35, .slice (some ⟨s.2.2.2.1, 0, none⟩) 1 1), (36, s.2.2.1)]) (fun s W => Aside0 (MSt w0 w0.heap.size (some (s.2.2.1, pc ++ [1])) (some s.2.2.2.1) none W)) ?_ ?_
            rotate_left
            · intro hJ0_5_6_7
              refine join_ (σ := Value × Value × Value × Nat × Nat) 3 #[true, true, true, true, true, true, true, false, false, true, false] (fun s => [(29, s.1), (34, s.2.1), (35, .slice (some ⟨s.2.2.2.1, 0, none⟩) 1 1), (10, .pointer (some ⟨s.2.2.2.2, 0, none⟩))]) (fun s W => Aside0 (MSt w0 w0.heap.size (some (s.2.1, pc)) (some s.2.2.2.1) (some s.2.2.2.2) W)) ?_ ?_
              rotate_left
              · intro hJ0_5_6_9
                refine join_ (σ := Value × Value × Value × Nat × Nat) 4 #[true, true, true, true, true, true, true, false, false, false, false] (fun s => [(29, s.1), (34, s.2.1), (35, .slice (some ⟨s.2.2.2.1, 0, none⟩) 1 1)]) (fun s W => Aside0 (MSt w0 w0.heap.size (some (s.2.1, pc)) (some s.2.2.2.1) none W)) ?_ ?_
                rotate_left
                · intro hJ0_5_6
                  refine join_ (σ := Value × Value × Value × Nat × Nat) 4 #[true, true, true, true, true, true, false, false, false, true, false] (fun s => [(29, s.1), (34, s.2.1), (10, .pointer (some ⟨s.2.2.2.2, 0, none⟩))]) (fun s W => Aside0 (MSt w0 w0.heap.size (some (s.2.1, pc)) none (some s.2.2.2.2) W)) ?_ ?_
                  rotate_left
                  · intro hJ0_5_9
                    refine join_ (σ := Value × Value × Value × Nat × Nat) 4 #[true, true, true, true, true, false, true, false, false, true, false] (fun s => [(29, s.1), (35, .slice (some ⟨s.2.2.2.1, 0, none⟩) 1 1), (10, .pointer (some ⟨s.2.2.2.2, 0, none⟩))]) (fun s W => Aside0 (MSt w0 w0.heap.size (some (s.1, [])) (some s.2.2.2.1) (some s.2.2.2.2) W)) ?_ ?_
                    rotate_left
                    · intro hJ0_6_9
                      refine join_ (σ := Value × Value × Value × Nat × Nat) 5 #[true, true, true, true, true, true, false, false, false, false, false] (fun s => [(29, s.1), (34, s.2.1)]) (fun s W => Aside0 (MSt w0 w0.heap.size (some (s.2.1, pc)) none none W)) ?_ ?_
                      rotate_left
                      · intro hJ0_5
                        refine join_ (σ := Value × Value × Value × Nat × Nat) 5 #[true, true, true, true, true, false, true, false, false, false, false] (fun s => [(29, s.1), (35, .slice (some ⟨s.2.2.2.1, 0, none⟩) 1 1)]) (fun s W => Aside0 (MSt w0 w0.heap.size (some (s.1, [])) (some s.2.2.2.1) none W)) ?_ ?_
                        rotate_left
                        · intro hJ0_6
                          refine join_ (σ := Value × Value × Value × Nat × Nat) 5 #[true, true, true, true, true, false, false, false, false, true, false] (fun s => [(29, s.1), (10, .pointer (some ⟨s.2.2.2.2, 0, none⟩))]) (fun s W => Aside0 (MSt w0 w0.heap.size (some (s.1, [])) none (some s.2.2.2.2) W)) ?_ ?_
                          rotate_left
                          · intro hJ0_9
                            refine join_ (σ := Value × Value × Value × Nat × Nat) 5 #[false, true, true, true, true, false, true, false, false, true, false] (fun s => [(35, .slice (some ⟨s.2.2.2.1, 0, none⟩) 1 1), (10, .pointer (some ⟨s.2.2.2.2, 0, none⟩))]) (fun s W => Aside0 (MSt w0 w0.heap.size (none) (some s.2.2.2.1) (some s.2.2.2.2) W)) ?_ ?_
                            rotate_left
                            · intro hJ6_9
                              refine join_ (σ := Value × Value × Value × Nat × Nat) 6 #[true, true, true, true, true, false, false, false, false, false, false] (fun s => [(29, s.1)]) (fun s W => Aside0 (MSt w0 w0.heap.size (some (s.1, [])) none none W)) ?_ ?_
                              rotate_left
                              · intro hJ0
                                refine join_ (σ := Value × Value × Value × Nat × Nat) 6 #[false, true, true, true, true, false, true, false, false, false, false] (fun s => [(35, .slice (some ⟨s.2.2.2.1, 0, none⟩) 1 1)]) (fun s W => Aside0 (MSt w0 w0.heap.size (none) (some s.2.2.2.1) none W)) ?_ ?_
                                rotate_left
                                · intro hJ6
                                  refine join_ (σ := Value × Value × Value × Nat × Nat) 6 #[false, true, true, true, true, false, false, false, false, true, false] (fun s => [(10, .pointer (some ⟨s.2.2.2.2, 0, none⟩))]) (fun s W => Aside0 (MSt w0 w0.heap.size (none) none (some s.2.2.2.2) W)) ?_ ?_
                                  rotate_left
                                  · intro hJ9
                                    refine three_ (i := 0) (j := 6) (k := 9) (Ni := some 29) (Nj := some 35) (Nk := some 10) #[true, true, true, true, true, false, false, false, false, false, false] #[false, true, true, true, true, false, true, false, false, false, false] #[false, true, true, true, true, false, false, false, false, true, false] rfl rfl rfl rfl rfl rfl (three_of HT_.out (by kernel_rfl)) (by decide) (by decide) (by decide) (fun K hK => ?_) (fun K hK => ?_) (fun K hK => ?_)
                                    · skip
                                      have HS := HS0
                                      refine value_ (v := .slice (some ⟨w0.heap.size, 0, none⟩) 0 17) (w1 := w0.alloc (.cells (nums .u8 (List.replicate 17 0)).toArray 5)) (by rfl) rfl (by go_simp) ?_
                                      refine hK.out _ _ trivial (fun hHeld => ?_)
                                      clear hK K
                                      refine norm_ (a' := ?_) ?_ ?_
                                      rotate_left
                                      · show Act.put _ (some 29) _ = _
                                        simp only [Act.put, List.setIfInBounds_toArray, List.set_cons_zero, List.set_cons_succ, i64_w, i32_w]
                                        rfl
                                      exact norm_ (by first | (simp only [putAll, Act.put, List.setIfInBounds_toArray, List.set_cons_zero, List.set_cons_succ]; done) | (simp only [putAll, Act.put, List.setIfInBounds_toArray, List.set_cons_zero, List.set_cons_succ]; rfl)) (hJ0 (.slice (some ⟨w0.heap.size, 0, none⟩) 0 17, .slice none 0 0, .slice none 0 0, 0, 0) _ ⟨HS.out.make⟩)
                                    · skip
                                      have HS := HS0
                                      refine value_ (v := .slice (some ⟨w0.heap.size, 0, none⟩) 1 1) (w1 := w0.alloc (.cells #[.int .u8 1] 5)) (by rfl) rfl (by go_simp) ?_
                                      refine hK.out _ _ trivial (fun hHeld => ?_)
                                      clear hK K
                                      refine norm_ (a' := ?_) ?_ ?_
                                      rotate_left
                                      · show Act.put _ (some 35) _ = _
                                        simp only [Act.put, List.setIfInBounds_toArray, List.set_cons_zero, List.set_cons_succ, i64_w, i32_w]
                                        rfl
                                      exact norm_ (by first | (simp only [putAll, Act.put, List.setIfInBounds_toArray, List.set_cons_zero, List.set_cons_succ]; done) | (simp only [putAll, Act.put, List.setIfInBounds_toArray, List.set_cons_zero, List.set_cons_succ]; rfl)) (hJ6 (.slice none 0 0, .slice none 0 0, .slice none 0 0, w0.heap.size, 0) _ ⟨HS.out.build⟩)
                                    · skip
                                      have HS := HS0
                                      refine value_ (v := .pointer (some ⟨w0.heap.size, 0, none⟩)) (w1 := w0.alloc (.cells (nums .u64 (List.replicate 5 0)).toArray 58)) (by rfl) rfl (by go_simp; rfl) ?_
                                      refine hK.out _ _ trivial (fun hHeld => ?_)
                                      clear hK K
                                      refine norm_ (a' := ?_) ?_ ?_
                                      rotate_left
                                      · show Act.put _ (some 10) _ = _
                                        simp only [Act.put, List.setIfInBounds_toArray, List.set_cons_zero, List.set_cons_succ, i64_w, i32_w]
                                        rfl
                                      exact norm_ (by first | (simp only [putAll, Act.put, List.setIfInBounds_toArray, List.set_cons_zero, List.set_cons_succ]; done) | (simp only [putAll, Act.put, List.setIfInBounds_toArray, List.set_cons_zero, List.set_cons_succ]; rfl)) (hJ9 (.slice none 0 0, .slice none 0 0, .slice none 0 0, 0, w0.heap.size) _ ⟨HS.out.lay⟩)
                                  · skip
                                    rintro ⟨v29, v34, v36, g6, g10⟩ W HS
                                    dsimp only at HS
                                    refine norm_ (a' := ?_) ?_ ?_
                                    rotate_left
                                    · simp only [putAll, Act.put, List.setIfInBounds_toArray, List.set_cons_zero, List.set_cons_succ]
                                      rfl
                                    refine two_ (i := 0) (j := 6) (Ni := some 29) (Nj := some 35) #[true, true, true, true, true, false, false, false, false, true, false] #[false, true, true, true, true, false, true, false, false, true, false] rfl rfl rfl rfl (two_of HT_.out (by kernel_rfl)) (by decide) (by decide) (fun K hK => ?_) (fun K hK => ?_)
                                    · skip
                                      refine value_ (v := .slice (some ⟨W.heap.size, 0, none⟩) 0 17) (w1 := W.alloc (.cells (nums .u8 (List.replicate 17 0)).toArray 5)) (by rfl) rfl (by go_simp) ?_
                                      refine hK.out _ _ trivial (fun hHeld => ?_)
                                      clear hK K
                                      refine norm_ (a' := ?_) ?_ ?_
                                      rotate_left
                                      · show Act.put _ (some 29) _ = _
                                        simp only [Act.put, List.setIfInBounds_toArray, List.set_cons_zero, List.set_cons_succ, i64_w, i32_w]
                                        rfl
                                      exact norm_ (by first | (simp only [putAll, Act.put, List.setIfInBounds_toArray, List.set_cons_zero, List.set_cons_succ]; done) | (simp only [putAll, Act.put, List.setIfInBounds_toArray, List.set_cons_zero, List.set_cons_succ]; rfl)) (hJ0_9 (.slice (some ⟨W.heap.size, 0, none⟩) 0 17, .slice none 0 0, .slice none 0 0, 0, g10) _ ⟨HS.out.make⟩)
                                    · skip
                                      refine value_ (v := .slice (some ⟨W.heap.size, 0, none⟩) 1 1) (w1 := W.alloc (.cells #[.int .u8 1] 5)) (by rfl) rfl (by go_simp) ?_
                                      refine hK.out _ _ trivial (fun hHeld => ?_)
                                      clear hK K
                                      refine norm_ (a' := ?_) ?_ ?_
                                      rotate_left
                                      · show Act.put _ (some 35) _ = _
                                        simp only [Act.put, List.setIfInBounds_toArray, List.set_cons_zero, List.set_cons_succ, i64_w, i32_w]
                                        rfl
                                      exact norm_ (by first | (simp only [putAll, Act.put, List.setIfInBounds_toArray, List.set_cons_zero, List.set_cons_succ]; done) | (simp only [putAll, Act.put, List.setIfInBounds_toArray, List.set_cons_zero, List.set_cons_succ]; rfl)) (hJ6_9 (.slice none 0 0, .slice none 0 0, .slice none 0 0, W.heap.size, g10) _ ⟨HS.out.build⟩)
                                · skip
                                  rintro ⟨v29, v34, v36, g6, g10⟩ W HS
                                  dsimp only at HS
                                  refine norm_ (a' := ?_) ?_ ?_
                                  rotate_left
                                  · simp only [putAll, Act.put, List.setIfInBounds_toArray, List.set_cons_zero, List.set_cons_succ]
                                    rfl
                                  refine two_ (i := 0) (j := 9) (Ni := some 29) (Nj := some 10) #[true, true, true, true, true, false, true, false, false, false, false] #[false, true, true, true, true, false, true, false, false, true, false] rfl rfl rfl rfl (two_of HT_.out (by kernel_rfl)) (by decide) (by decide) (fun K hK => ?_) (fun K hK => ?_)
                                  · skip
                                    refine value_ (v := .slice (some ⟨W.heap.size, 0, none⟩) 0 17) (w1 := W.alloc (.cells (nums .u8 (List.replicate 17 0)).toArray 5)) (by rfl) rfl (by go_simp) ?_
                                    refine hK.out _ _ trivial (fun hHeld => ?_)
                                    clear hK K
                                    refine norm_ (a' := ?_) ?_ ?_
                                    rotate_left
                                    · show Act.put _ (some 29) _ = _
                                      simp only [Act.put, List.setIfInBounds_toArray, List.set_cons_zero, List.set_cons_succ, i64_w, i32_w]
                                      rfl
                                    exact norm_ (by first | (simp only [putAll, Act.put, List.setIfInBounds_toArray, List.set_cons_zero, List.set_cons_succ]; done) | (simp only [putAll, Act.put, List.setIfInBounds_toArray, List.set_cons_zero, List.set_cons_succ]; rfl)) (hJ0_6 (.slice (some ⟨W.heap.size, 0, none⟩) 0 17, .slice none 0 0, .slice none 0 0, g6, 0) _ ⟨HS.out.make⟩)
                                  · skip
                                    refine value_ (v := .pointer (some ⟨W.heap.size, 0, none⟩)) (w1 := W.alloc (.cells (nums .u64 (List.replicate 5 0)).toArray 58)) (by rfl) rfl (by go_simp; rfl) ?_
                                    refine hK.out _ _ trivial (fun hHeld => ?_)
                                    clear hK K
                                    refine norm_ (a' := ?_) ?_ ?_
                                    rotate_left
                                    · show Act.put _ (some 10) _ = _
                                      simp only [Act.put, List.setIfInBounds_toArray, List.set_cons_zero, List.set_cons_succ, i64_w, i32_w]
                                      rfl
                                    exact norm_ (by first | (simp only [putAll, Act.put, List.setIfInBounds_toArray, List.set_cons_zero, List.set_cons_succ]; done) | (simp only [putAll, Act.put, List.setIfInBounds_toArray, List.set_cons_zero, List.set_cons_succ]; rfl)) (hJ6_9 (.slice none 0 0, .slice none 0 0, .slice none 0 0, g6, W.heap.size) _ ⟨HS.out.lay⟩)
                              · skip
                                rintro ⟨v29, v34, v36, g6, g10⟩ W HS
                                dsimp only at HS
                                refine norm_ (a' := ?_) ?_ ?_
                                rotate_left
                                · simp only [putAll, Act.put, List.setIfInBounds_toArray, List.set_cons_zero, List.set_cons_succ]
                                  rfl
                                refine three_ (i := 5) (j := 6) (k := 9) (Ni := some 34) (Nj := some 35) (Nk := some 10) #[true, true, true, true, true, true, false, false, false, false, false] #[true, true, true, true, true, false, true, false, false, false, false] #[true, true, true, true, true, false, false, false, false, true, false] rfl rfl rfl rfl rfl rfl (three_of HT_.out (by kernel_rfl)) (by decide) (by decide) (by decide) (fun K hK => ?_) (fun K hK => ?_) (fun K hK => ?_)
                                · skip
                                  refine app_step (k := .u8) (l := []) (ys := pc) (base := w0.heap.size) (e := 5) (m := pc.length) (by rfl) rfl (.tmp 29) (.tmp 33) 28 rfl Try.underlying28 1 info5 v29 rfl (HS.out.own _ _ rfl) adp rfl rfl (fun j u hu => (HS.out.bel.cell (cells_lt (HPC.out j u hu))).trans (HPC.out j u hu)) (by have := pcl.out; have : maxLen = 9223372036854775807 := rfl; simp; omega) (by have := pcl.out; simp; omega) HS.out.size ?_
                                  intro v' W' o1 g1 h1
                                  rw [List.nil_append] at o1
                                  refine hK.out _ _ trivial (fun hHeld => ?_)
                                  clear hK K
                                  refine norm_ (a' := ?_) ?_ ?_
                                  rotate_left
                                  · show Act.put _ (some 34) _ = _
                                    simp only [Act.put, List.setIfInBounds_toArray, List.set_cons_zero, List.set_cons_succ, i64_w, i32_w]
                                    rfl
                                  exact norm_ (by first | (simp only [putAll, Act.put, List.setIfInBounds_toArray, List.set_cons_zero, List.set_cons_succ]; done) | (simp only [putAll, Act.put, List.setIfInBounds_toArray, List.set_cons_zero, List.set_cons_succ]; rfl)) (hJ0_5 (v29, v', .slice none 0 0, 0, 0) _ ⟨HS.out.app o1 g1 h1⟩)
                                · skip
                                  refine value_ (v := .slice (some ⟨W.heap.size, 0, none⟩) 1 1) (w1 := W.alloc (.cells #[.int .u8 1] 5)) (by rfl) rfl (by go_simp) ?_
                                  refine hK.out _ _ trivial (fun hHeld => ?_)
                                  clear hK K
                                  refine norm_ (a' := ?_) ?_ ?_
                                  rotate_left
                                  · show Act.put _ (some 35) _ = _
                                    simp only [Act.put, List.setIfInBounds_toArray, List.set_cons_zero, List.set_cons_succ, i64_w, i32_w]
                                    rfl
                                  exact norm_ (by first | (simp only [putAll, Act.put, List.setIfInBounds_toArray, List.set_cons_zero, List.set_cons_succ]; done) | (simp only [putAll, Act.put, List.setIfInBounds_toArray, List.set_cons_zero, List.set_cons_succ]; rfl)) (hJ0_6 (v29, .slice none 0 0, .slice none 0 0, W.heap.size, 0) _ ⟨HS.out.build⟩)
                                · skip
                                  refine value_ (v := .pointer (some ⟨W.heap.size, 0, none⟩)) (w1 := W.alloc (.cells (nums .u64 (List.replicate 5 0)).toArray 58)) (by rfl) rfl (by go_simp; rfl) ?_
                                  refine hK.out _ _ trivial (fun hHeld => ?_)
                                  clear hK K
                                  refine norm_ (a' := ?_) ?_ ?_
                                  rotate_left
                                  · show Act.put _ (some 10) _ = _
                                    simp only [Act.put, List.setIfInBounds_toArray, List.set_cons_zero, List.set_cons_succ, i64_w, i32_w]
                                    rfl
                                  exact norm_ (by first | (simp only [putAll, Act.put, List.setIfInBounds_toArray, List.set_cons_zero, List.set_cons_succ]; done) | (simp only [putAll, Act.put, List.setIfInBounds_toArray, List.set_cons_zero, List.set_cons_succ]; rfl)) (hJ0_9 (v29, .slice none 0 0, .slice none 0 0, 0, W.heap.size) _ ⟨HS.out.lay⟩)
                            · skip
                              rintro ⟨v29, v34, v36, g6, g10⟩ W HS
                              dsimp only at HS
                              refine norm_ (a' := ?_) ?_ ?_
                              rotate_left
                              · simp only [putAll, Act.put, List.setIfInBounds_toArray, List.set_cons_zero, List.set_cons_succ]
                                rfl
                              refine one_ (i := 0) (N := some 29) #[true, true, true, true, true, false, true, false, false, true, false] rfl rfl (one_of HT_.out (by kernel_rfl)) (by decide) (fun K hK => ?_)
                              refine value_ (v := .slice (some ⟨W.heap.size, 0, none⟩) 0 17) (w1 := W.alloc (.cells (nums .u8 (List.replicate 17 0)).toArray 5)) (by rfl) rfl (by go_simp) ?_
                              refine hK.out _ _ trivial (fun hHeld => ?_)
                              clear hK K
                              refine norm_ (a' := ?_) ?_ ?_
                              rotate_left
                              · show Act.put _ (some 29) _ = _
                                simp only [Act.put, List.setIfInBounds_toArray, List.set_cons_zero, List.set_cons_succ, i64_w, i32_w]
                                rfl
                              exact norm_ (by first | (simp only [putAll, Act.put, List.setIfInBounds_toArray, List.set_cons_zero, List.set_cons_succ]; done) | (simp only [putAll, Act.put, List.setIfInBounds_toArray, List.set_cons_zero, List.set_cons_succ]; rfl)) (hJ0_6_9 (.slice (some ⟨W.heap.size, 0, none⟩) 0 17, .slice none 0 0, .slice none 0 0, g6, g10) _ ⟨HS.out.make⟩)
                          · skip
                            rintro ⟨v29, v34, v36, g6, g10⟩ W HS
                            dsimp only at HS
                            refine norm_ (a' := ?_) ?_ ?_
                            rotate_left
                            · simp only [putAll, Act.put, List.setIfInBounds_toArray, List.set_cons_zero, List.set_cons_succ]
                              rfl
                            refine two_ (i := 5) (j := 6) (Ni := some 34) (Nj := some 35) #[true, true, true, true, true, true, false, false, false, true, false] #[true, true, true, true, true, false, true, false, false, true, false] rfl rfl rfl rfl (two_of HT_.out (by kernel_rfl)) (by decide) (by decide) (fun K hK => ?_) (fun K hK => ?_)
                            · skip
                              refine app_step (k := .u8) (l := []) (ys := pc) (base := w0.heap.size) (e := 5) (m := pc.length) (by rfl) rfl (.tmp 29) (.tmp 33) 28 rfl Try.underlying28 1 info5 v29 rfl (HS.out.own _ _ rfl) adp rfl rfl (fun j u hu => (HS.out.bel.cell (cells_lt (HPC.out j u hu))).trans (HPC.out j u hu)) (by have := pcl.out; have : maxLen = 9223372036854775807 := rfl; simp; omega) (by have := pcl.out; simp; omega) HS.out.size ?_
                              intro v' W' o1 g1 h1
                              rw [List.nil_append] at o1
                              refine hK.out _ _ trivial (fun hHeld => ?_)
                              clear hK K
                              refine norm_ (a' := ?_) ?_ ?_
                              rotate_left
                              · show Act.put _ (some 34) _ = _
                                simp only [Act.put, List.setIfInBounds_toArray, List.set_cons_zero, List.set_cons_succ, i64_w, i32_w]
                                rfl
                              exact norm_ (by first | (simp only [putAll, Act.put, List.setIfInBounds_toArray, List.set_cons_zero, List.set_cons_succ]; done) | (simp only [putAll, Act.put, List.setIfInBounds_toArray, List.set_cons_zero, List.set_cons_succ]; rfl)) (hJ0_5_9 (v29, v', .slice none 0 0, 0, g10) _ ⟨HS.out.app o1 g1 h1⟩)
                            · skip
                              refine value_ (v := .slice (some ⟨W.heap.size, 0, none⟩) 1 1) (w1 := W.alloc (.cells #[.int .u8 1] 5)) (by rfl) rfl (by go_simp) ?_
                              refine hK.out _ _ trivial (fun hHeld => ?_)
                              clear hK K
                              refine norm_ (a' := ?_) ?_ ?_
                              rotate_left
                              · show Act.put _ (some 35) _ = _
                                simp only [Act.put, List.setIfInBounds_toArray, List.set_cons_zero, List.set_cons_succ, i64_w, i32_w]
                                rfl
                              exact norm_ (by first | (simp only [putAll, Act.put, List.setIfInBounds_toArray, List.set_cons_zero, List.set_cons_succ]; done) | (simp only [putAll, Act.put, List.setIfInBounds_toArray, List.set_cons_zero, List.set_cons_succ]; rfl)) (hJ0_6_9 (v29, .slice none 0 0, .slice none 0 0, W.heap.size, g10) _ ⟨HS.out.build⟩)
                        · skip
                          rintro ⟨v29, v34, v36, g6, g10⟩ W HS
                          dsimp only at HS
                          refine norm_ (a' := ?_) ?_ ?_
                          rotate_left
                          · simp only [putAll, Act.put, List.setIfInBounds_toArray, List.set_cons_zero, List.set_cons_succ]
                            rfl
                          refine two_ (i := 5) (j := 9) (Ni := some 34) (Nj := some 10) #[true, true, true, true, true, true, true, false, false, false, false] #[true, true, true, true, true, false, true, false, false, true, false] rfl rfl rfl rfl (two_of HT_.out (by kernel_rfl)) (by decide) (by decide) (fun K hK => ?_) (fun K hK => ?_)
                          · skip
                            refine app_step (k := .u8) (l := []) (ys := pc) (base := w0.heap.size) (e := 5) (m := pc.length) (by rfl) rfl (.tmp 29) (.tmp 33) 28 rfl Try.underlying28 1 info5 v29 rfl (HS.out.own _ _ rfl) adp rfl rfl (fun j u hu => (HS.out.bel.cell (cells_lt (HPC.out j u hu))).trans (HPC.out j u hu)) (by have := pcl.out; have : maxLen = 9223372036854775807 := rfl; simp; omega) (by have := pcl.out; simp; omega) HS.out.size ?_
                            intro v' W' o1 g1 h1
                            rw [List.nil_append] at o1
                            refine hK.out _ _ trivial (fun hHeld => ?_)
                            clear hK K
                            refine norm_ (a' := ?_) ?_ ?_
                            rotate_left
                            · show Act.put _ (some 34) _ = _
                              simp only [Act.put, List.setIfInBounds_toArray, List.set_cons_zero, List.set_cons_succ, i64_w, i32_w]
                              rfl
                            exact norm_ (by first | (simp only [putAll, Act.put, List.setIfInBounds_toArray, List.set_cons_zero, List.set_cons_succ]; done) | (simp only [putAll, Act.put, List.setIfInBounds_toArray, List.set_cons_zero, List.set_cons_succ]; rfl)) (hJ0_5_6 (v29, v', .slice none 0 0, g6, 0) _ ⟨HS.out.app o1 g1 h1⟩)
                          · skip
                            refine value_ (v := .pointer (some ⟨W.heap.size, 0, none⟩)) (w1 := W.alloc (.cells (nums .u64 (List.replicate 5 0)).toArray 58)) (by rfl) rfl (by go_simp; rfl) ?_
                            refine hK.out _ _ trivial (fun hHeld => ?_)
                            clear hK K
                            refine norm_ (a' := ?_) ?_ ?_
                            rotate_left
                            · show Act.put _ (some 10) _ = _
                              simp only [Act.put, List.setIfInBounds_toArray, List.set_cons_zero, List.set_cons_succ, i64_w, i32_w]
                              rfl
                            exact norm_ (by first | (simp only [putAll, Act.put, List.setIfInBounds_toArray, List.set_cons_zero, List.set_cons_succ]; done) | (simp only [putAll, Act.put, List.setIfInBounds_toArray, List.set_cons_zero, List.set_cons_succ]; rfl)) (hJ0_6_9 (v29, .slice none 0 0, .slice none 0 0, g6, W.heap.size) _ ⟨HS.out.lay⟩)
                      · skip
                        rintro ⟨v29, v34, v36, g6, g10⟩ W HS
                        dsimp only at HS
                        refine norm_ (a' := ?_) ?_ ?_
                        rotate_left
                        · simp only [putAll, Act.put, List.setIfInBounds_toArray, List.set_cons_zero, List.set_cons_succ]
                          rfl
                        refine two_ (i := 6) (j := 9) (Ni := some 35) (Nj := some 10) #[true, true, true, true, true, true, true, false, false, false, false] #[true, true, true, true, true, true, false, false, false, true, false] rfl rfl rfl rfl (two_of HT_.out (by kernel_rfl)) (by decide) (by decide) (fun K hK => ?_) (fun K hK => ?_)
                        · skip
                          refine value_ (v := .slice (some ⟨W.heap.size, 0, none⟩) 1 1) (w1 := W.alloc (.cells #[.int .u8 1] 5)) (by rfl) rfl (by go_simp) ?_
                          refine hK.out _ _ trivial (fun hHeld => ?_)
                          clear hK K
                          refine norm_ (a' := ?_) ?_ ?_
                          rotate_left
                          · show Act.put _ (some 35) _ = _
                            simp only [Act.put, List.setIfInBounds_toArray, List.set_cons_zero, List.set_cons_succ, i64_w, i32_w]
                            rfl
                          exact norm_ (by first | (simp only [putAll, Act.put, List.setIfInBounds_toArray, List.set_cons_zero, List.set_cons_succ]; done) | (simp only [putAll, Act.put, List.setIfInBounds_toArray, List.set_cons_zero, List.set_cons_succ]; rfl)) (hJ0_5_6 (v29, v34, .slice none 0 0, W.heap.size, 0) _ ⟨HS.out.build⟩)
                        · skip
                          refine value_ (v := .pointer (some ⟨W.heap.size, 0, none⟩)) (w1 := W.alloc (.cells (nums .u64 (List.replicate 5 0)).toArray 58)) (by rfl) rfl (by go_simp; rfl) ?_
                          refine hK.out _ _ trivial (fun hHeld => ?_)
                          clear hK K
                          refine norm_ (a' := ?_) ?_ ?_
                          rotate_left
                          · show Act.put _ (some 10) _ = _
                            simp only [Act.put, List.setIfInBounds_toArray, List.set_cons_zero, List.set_cons_succ, i64_w, i32_w]
                            rfl
                          exact norm_ (by first | (simp only [putAll, Act.put, List.setIfInBounds_toArray, List.set_cons_zero, List.set_cons_succ]; done) | (simp only [putAll, Act.put, List.setIfInBounds_toArray, List.set_cons_zero, List.set_cons_succ]; rfl)) (hJ0_5_9 (v29, v34, .slice none 0 0, 0, W.heap.size) _ ⟨HS.out.lay⟩)
                    · skip
                      rintro ⟨v29, v34, v36, g6, g10⟩ W HS
                      dsimp only at HS
                      refine norm_ (a' := ?_) ?_ ?_
                      rotate_left
                      · simp only [putAll, Act.put, List.setIfInBounds_toArray, List.set_cons_zero, List.set_cons_succ]
                        rfl
                      refine one_ (i := 5) (N := some 34) #[true, true, true, true, true, true, true, false, false, true, false] rfl rfl (one_of HT_.out (by kernel_rfl)) (by decide) (fun K hK => ?_)
                      refine app_step (k := .u8) (l := []) (ys := pc) (base := w0.heap.size) (e := 5) (m := pc.length) (by rfl) rfl (.tmp 29) (.tmp 33) 28 rfl Try.underlying28 1 info5 v29 rfl (HS.out.own _ _ rfl) adp rfl rfl (fun j u hu => (HS.out.bel.cell (cells_lt (HPC.out j u hu))).trans (HPC.out j u hu)) (by have := pcl.out; have : maxLen = 9223372036854775807 := rfl; simp; omega) (by have := pcl.out; simp; omega) HS.out.size ?_
                      intro v' W' o1 g1 h1
                      rw [List.nil_append] at o1
                      refine hK.out _ _ trivial (fun hHeld => ?_)
                      clear hK K
                      refine norm_ (a' := ?_) ?_ ?_
                      rotate_left
                      · show Act.put _ (some 34) _ = _
                        simp only [Act.put, List.setIfInBounds_toArray, List.set_cons_zero, List.set_cons_succ, i64_w, i32_w]
                        rfl
                      exact norm_ (by first | (simp only [putAll, Act.put, List.setIfInBounds_toArray, List.set_cons_zero, List.set_cons_succ]; done) | (simp only [putAll, Act.put, List.setIfInBounds_toArray, List.set_cons_zero, List.set_cons_succ]; rfl)) (hJ0_5_6_9 (v29, v', .slice none 0 0, g6, g10) _ ⟨HS.out.app o1 g1 h1⟩)
                  · skip
                    rintro ⟨v29, v34, v36, g6, g10⟩ W HS
                    dsimp only at HS
                    refine norm_ (a' := ?_) ?_ ?_
                    rotate_left
                    · simp only [putAll, Act.put, List.setIfInBounds_toArray, List.set_cons_zero, List.set_cons_succ]
                      rfl
                    refine one_ (i := 6) (N := some 35) #[true, true, true, true, true, true, true, false, false, true, false] rfl rfl (one_of HT_.out (by kernel_rfl)) (by decide) (fun K hK => ?_)
                    refine value_ (v := .slice (some ⟨W.heap.size, 0, none⟩) 1 1) (w1 := W.alloc (.cells #[.int .u8 1] 5)) (by rfl) rfl (by go_simp) ?_
                    refine hK.out _ _ trivial (fun hHeld => ?_)
                    clear hK K
                    refine norm_ (a' := ?_) ?_ ?_
                    rotate_left
                    · show Act.put _ (some 35) _ = _
                      simp only [Act.put, List.setIfInBounds_toArray, List.set_cons_zero, List.set_cons_succ, i64_w, i32_w]
                      rfl
                    exact norm_ (by first | (simp only [putAll, Act.put, List.setIfInBounds_toArray, List.set_cons_zero, List.set_cons_succ]; done) | (simp only [putAll, Act.put, List.setIfInBounds_toArray, List.set_cons_zero, List.set_cons_succ]; rfl)) (hJ0_5_6_9 (v29, v34, .slice none 0 0, W.heap.size, g10) _ ⟨HS.out.build⟩)
                · skip
                  rintro ⟨v29, v34, v36, g6, g10⟩ W HS
                  dsimp only at HS
                  refine norm_ (a' := ?_) ?_ ?_
                  rotate_left
                  · simp only [putAll, Act.put, List.setIfInBounds_toArray, List.set_cons_zero, List.set_cons_succ]
                    rfl
                  refine two_ (i := 7) (j := 9) (Ni := some 36) (Nj := some 10) #[true, true, true, true, true, true, true, true, false, false, false] #[true, true, true, true, true, true, true, false, false, true, false] rfl rfl rfl rfl (two_of HT_.out (by kernel_rfl)) (by decide) (by decide) (fun K hK => ?_) (fun K hK => ?_)
                  · skip
                    refine app_step (k := .u8) (l := pc) (ys := [1]) (base := w0.heap.size) (e := 5) (m := 1) (by rfl) rfl (.tmp 34) (.tmp 35) 28 rfl Try.underlying28 1 info5 v34 rfl (HS.out.own _ _ rfl) ⟨g6, 0, none⟩ rfl rfl (one_cells6 (HS.out.b6 _ rfl).1) (by have := pcl.out; have : maxLen = 9223372036854775807 := rfl; omega) (by have := pcl.out; omega) HS.out.size ?_
                    intro v' W' o1 g1 h1
                    refine hK.out _ _ trivial (fun hHeld => ?_)
                    clear hK K
                    refine norm_ (a' := ?_) ?_ ?_
                    rotate_left
                    · show Act.put _ (some 36) _ = _
                      simp only [Act.put, List.setIfInBounds_toArray, List.set_cons_zero, List.set_cons_succ, i64_w, i32_w]
                      rfl
                    exact norm_ (by first | (simp only [putAll, Act.put, List.setIfInBounds_toArray, List.set_cons_zero, List.set_cons_succ]; done) | (simp only [putAll, Act.put, List.setIfInBounds_toArray, List.set_cons_zero, List.set_cons_succ]; rfl)) (hJ0_5_6_7 (v29, v34, v', g6, 0) _ ⟨HS.out.app o1 g1 h1⟩)
                  · skip
                    refine value_ (v := .pointer (some ⟨W.heap.size, 0, none⟩)) (w1 := W.alloc (.cells (nums .u64 (List.replicate 5 0)).toArray 58)) (by rfl) rfl (by go_simp; rfl) ?_
                    refine hK.out _ _ trivial (fun hHeld => ?_)
                    clear hK K
                    refine norm_ (a' := ?_) ?_ ?_
                    rotate_left
                    · show Act.put _ (some 10) _ = _
                      simp only [Act.put, List.setIfInBounds_toArray, List.set_cons_zero, List.set_cons_succ, i64_w, i32_w]
                      rfl
                    exact norm_ (by first | (simp only [putAll, Act.put, List.setIfInBounds_toArray, List.set_cons_zero, List.set_cons_succ]; done) | (simp only [putAll, Act.put, List.setIfInBounds_toArray, List.set_cons_zero, List.set_cons_succ]; rfl)) (hJ0_5_6_9 (v29, v34, .slice none 0 0, g6, W.heap.size) _ ⟨HS.out.lay⟩)
              · skip
                rintro ⟨v29, v34, v36, g6, g10⟩ W HS
                dsimp only at HS
                refine norm_ (a' := ?_) ?_ ?_
                rotate_left
                · simp only [putAll, Act.put, List.setIfInBounds_toArray, List.set_cons_zero, List.set_cons_succ]
                  rfl
                refine one_ (i := 7) (N := some 36) #[true, true, true, true, true, true, true, true, false, true, false] rfl rfl (one_of HT_.out (by kernel_rfl)) (by decide) (fun K hK => ?_)
                refine app_step (k := .u8) (l := pc) (ys := [1]) (base := w0.heap.size) (e := 5) (m := 1) (by rfl) rfl (.tmp 34) (.tmp 35) 28 rfl Try.underlying28 1 info5 v34 rfl (HS.out.own _ _ rfl) ⟨g6, 0, none⟩ rfl rfl (one_cells6 (HS.out.b6 _ rfl).1) (by have := pcl.out; have : maxLen = 9223372036854775807 := rfl; omega) (by have := pcl.out; omega) HS.out.size ?_
                intro v' W' o1 g1 h1
                refine hK.out _ _ trivial (fun hHeld => ?_)
                clear hK K
                refine norm_ (a' := ?_) ?_ ?_
                rotate_left
                · show Act.put _ (some 36) _ = _
                  simp only [Act.put, List.setIfInBounds_toArray, List.set_cons_zero, List.set_cons_succ, i64_w, i32_w]
                  rfl
                exact norm_ (by first | (simp only [putAll, Act.put, List.setIfInBounds_toArray, List.set_cons_zero, List.set_cons_succ]; done) | (simp only [putAll, Act.put, List.setIfInBounds_toArray, List.set_cons_zero, List.set_cons_succ]; rfl)) (hJ0_5_6_7_9 (v29, v34, v', g6, g10) _ ⟨HS.out.app o1 g1 h1⟩)
            · skip
              rintro ⟨v29, v34, v36, g6, g10⟩ W HS
              dsimp only at HS
              refine norm_ (a' := ?_) ?_ ?_
              rotate_left
              · simp only [putAll, Act.put, List.setIfInBounds_toArray, List.set_cons_zero, List.set_cons_succ]
                rfl
              refine two_ (i := 8) (j := 9) (Ni := some 37) (Nj := some 10) #[true, true, true, true, true, true, true, true, true, false, false] #[true, true, true, true, true, true, true, true, false, true, false] rfl rfl rfl rfl (two_of HT_.out (by kernel_rfl)) (by decide) (by decide) (fun K hK => ?_) (fun K hK => ?_)
              · skip
                obtain ⟨g36, c36, rfl, _, hc36, hr36⟩ := (HS.out.own _ _ rfl).readsC (by simp) (by have := pcl.out; simp; omega)
                refine goes_ Try.func48 (by kernel_rfl) rfl #[.slice (some ⟨g36, 0, none⟩) (pc ++ [1]).length c36] (by rfl) rfl rfl (by (try simp only [List.map_toArray, List.map_cons, List.map_nil]); first | done | rfl) ?_
                with_reducible refine (of_any (some ⟨g36, 0, none⟩) c36 (pc ++ [1]) W hr36 hc36 (by have := pcl.out; simp; omega) hroom.out).mono ?_
                rintro e W' ⟨rfl, l8⟩
                refine ⟨_, rfl, ?_⟩
                refine hK.out _ _ trivial (fun hHeld => ?_)
                clear hK K
                refine norm_ (a' := ?_) ?_ ?_
                rotate_left
                · show Act.put _ (some 37) _ = _
                  simp only [Act.put, List.setIfInBounds_toArray, List.set_cons_zero, List.set_cons_succ, i64_w, i32_w]
                  rfl
                exact norm_ (by first | (simp only [putAll, Act.put, List.setIfInBounds_toArray, List.set_cons_zero, List.set_cons_succ]; done) | (simp only [putAll, Act.put, List.setIfInBounds_toArray, List.set_cons_zero, List.set_cons_succ]; rfl)) (hJ0_5_6_7_8 (v29, v34, (.slice (some ⟨g36, 0, none⟩) (pc ++ [1]).length c36), g6, 0) _ ⟨HS.out.call l8⟩)
              · skip
                refine value_ (v := .pointer (some ⟨W.heap.size, 0, none⟩)) (w1 := W.alloc (.cells (nums .u64 (List.replicate 5 0)).toArray 58)) (by rfl) rfl (by go_simp; rfl) ?_
                refine hK.out _ _ trivial (fun hHeld => ?_)
                clear hK K
                refine norm_ (a' := ?_) ?_ ?_
                rotate_left
                · show Act.put _ (some 10) _ = _
                  simp only [Act.put, List.setIfInBounds_toArray, List.set_cons_zero, List.set_cons_succ, i64_w, i32_w]
                  rfl
                exact norm_ (by first | (simp only [putAll, Act.put, List.setIfInBounds_toArray, List.set_cons_zero, List.set_cons_succ]; done) | (simp only [putAll, Act.put, List.setIfInBounds_toArray, List.set_cons_zero, List.set_cons_succ]; rfl)) (hJ0_5_6_7_9 (v29, v34, v36, g6, W.heap.size) _ ⟨HS.out.lay⟩)
          · skip
            rintro ⟨v29, v34, v36, g6, g10⟩ W HS
            dsimp only at HS
            refine norm_ (a' := ?_) ?_ ?_
            rotate_left
            · simp only [putAll, Act.put, List.setIfInBounds_toArray, List.set_cons_zero, List.set_cons_succ]
              rfl
            refine one_ (i := 8) (N := some 37) #[true, true, true, true, true, true, true, true, true, true, false] rfl rfl (one_of HT_.out (by kernel_rfl)) (by decide) (fun K hK => ?_)
            obtain ⟨g36, c36, rfl, _, hc36, hr36⟩ := (HS.out.own _ _ rfl).readsC (by simp) (by have := pcl.out; simp; omega)
            refine goes_ Try.func48 (by kernel_rfl) rfl #[.slice (some ⟨g36, 0, none⟩) (pc ++ [1]).length c36] (by rfl) rfl rfl (by (try simp only [List.map_toArray, List.map_cons, List.map_nil]); first | done | rfl) ?_
            with_reducible refine (of_any (some ⟨g36, 0, none⟩) c36 (pc ++ [1]) W hr36 hc36 (by have := pcl.out; simp; omega) hroom.out).mono ?_
            rintro e W' ⟨rfl, l8⟩
            refine ⟨_, rfl, ?_⟩
            refine hK.out _ _ trivial (fun hHeld => ?_)
            clear hK K
            refine norm_ (a' := ?_) ?_ ?_
            rotate_left
            · show Act.put _ (some 37) _ = _
              simp only [Act.put, List.setIfInBounds_toArray, List.set_cons_zero, List.set_cons_succ, i64_w, i32_w]
              rfl
            exact norm_ (by first | (simp only [putAll, Act.put, List.setIfInBounds_toArray, List.set_cons_zero, List.set_cons_succ]; done) | (simp only [putAll, Act.put, List.setIfInBounds_toArray, List.set_cons_zero, List.set_cons_succ]; rfl)) (hJ0_5_6_7_8_9 (v29, v34, (.slice (some ⟨g36, 0, none⟩) (pc ++ [1]).length c36), g6, g10) _ ⟨HS.out.call l8⟩)
        · skip
          rintro ⟨v29, v34, v36, g6, g10⟩ W HS
          dsimp only at HS
          refine norm_ (a' := ?_) ?_ ?_
          rotate_left
          · simp only [putAll, Act.put, List.setIfInBounds_toArray, List.set_cons_zero, List.set_cons_succ]
            rfl
          refine one_ (i := 9) (N := some 10) #[true, true, true, true, true, true, true, true, true, true, false] rfl rfl (one_of HT_.out (by kernel_rfl)) (by decide) (fun K hK => ?_)
          refine value_ (v := .pointer (some ⟨W.heap.size, 0, none⟩)) (w1 := W.alloc (.cells (nums .u64 (List.replicate 5 0)).toArray 58)) (by rfl) rfl (by go_simp; rfl) ?_
          refine hK.out _ _ trivial (fun hHeld => ?_)
          clear hK K
          refine norm_ (a' := ?_) ?_ ?_
          rotate_left
          · show Act.put _ (some 10) _ = _
            simp only [Act.put, List.setIfInBounds_toArray, List.set_cons_zero, List.set_cons_succ, i64_w, i32_w]
            rfl
          exact norm_ (by first | (simp only [putAll, Act.put, List.setIfInBounds_toArray, List.set_cons_zero, List.set_cons_succ]; done) | (simp only [putAll, Act.put, List.setIfInBounds_toArray, List.set_cons_zero, List.set_cons_succ]; rfl)) (hJ0_5_6_7_8_9 (v29, v34, v36, g6, W.heap.size) _ ⟨HS.out.lay⟩)
      rintro ⟨v29, v34, v36, g6, g10⟩ W HS
      dsimp only at HS
      refine norm_ (a' := ?_) ?_ ?_
      rotate_left
      · simp only [putAll, Act.put, List.setIfInBounds_toArray, List.set_cons_zero, List.set_cons_succ]
        rfl
      refine last_ (i := 10) (N := none) #[true, true, true, true, true, true, true, true, true, true, true] rfl rfl (one_of HT_.out (by kernel_rfl)) (by decide) (fun K hK => ?_)
      obtain ⟨hz10, B10, _⟩ := HS.out.b9 _ rfl
      obtain ⟨nn, hnn⟩ : ∃ nn, nn = ofW (pc ++ [1]) := ⟨_, rfl⟩
      have hnl : nn.length = 5 := by rw [hnn]; exact ofW_length _
      rw [← hnn]
      refine step_store_mid (cs := nums .u64 (List.replicate 5 0)) (t := 58) rfl rfl _ _ _ rfl 0 (by rfl) (nums .u64 nn) (by rfl) ⟨B10.out⟩ (by rw [nums_len, nums_len, hnl]; decide) ((show _ = some 5 by kernel_rfl).trans (by rw [nums_len, hnl])) oneCell_nums ?_
      intro w5 B5 g5 s5
      refine hK.out _ _ ?_
      clear hK K
      refine done_ (done_of HT_.out (by kernel_rfl)) ?_
      have N5 := Aside0.mk (show Blk w5 g10 58 .u64 nn from ⟨by
        have e := splice_all (nums .u64 (List.replicate 5 0)) (nums .u64 nn) (by rw [nums_len, nums_len, hnl, List.length_replicate])
        rw [← e]
        exact B5.out⟩)
      have hz0 := HS.out.bel
      have A5 := Aside0.mk ((HAd.out.belowB hgz.out.2 hz0).grown g5 (fun e => by have := Option.some.inj e; have := hgz.out.2; omega))
      have R5 := Aside0.mk ((HRd.out.belowB hgz.out.1 hz0).grown g5 (fun e => by have := Option.some.inj e; have := hgz.out.1; omega))
      have L5 := Aside0.mk ((HBd.out.trans (hz0.mono HBd.out.size)).grown g5 (by have := HBd.out.size; have := hz0.size; omega) (fun j e => by have := Option.some.inj e; have := HBd.out.size; omega))
      have hal := accI_length r b k
      have HAL := Aside0.mk hal
      have HNL := Aside0.mk hnl
      have HNN := Aside0.mk hnn
      obtain ⟨ac, hac⟩ : ∃ ac, ac = accI r b k := ⟨_, rfl⟩
      rw [← hac] at A5 HAL
      have HAC := Aside0.mk hac
      clear hal hnl hnn hac HAd HRd HBd HS B5 g5 s5 hz0 B10 hz10
      obtain ⟨pw, hpw⟩ : ∃ pw, pw = plusW ac nn := ⟨_, rfl⟩
      have hpl : pw.length = 5 := by rw [hpw, plusW_length]; exact HAL.out
      obtain ⟨tw, htw⟩ : ∃ tw, tw = timesW pw r := ⟨_, rfl⟩
      have htl : tw.length = 5 := by rw [htw]; exact timesW_length _ _
      have HPW := Aside0.mk hpw
      have HTW := Aside0.mk htw
      have HPL := Aside0.mk hpl
      have HTL := Aside0.mk htl
      clear hpw htw hpl htl
      go_wp2
      refine start_ (n := 6) (S := fun W => Aside0 (Blk W ga 58 .u64 ac) ∧ Aside0 (Blk W g10 58 .u64 nn) ∧ Aside0 (Blk W gr 58 .u64 r)) (ds := [5]) #[false, false, false, false, false, false] (by kernel_rfl) rfl rfl ⟨⟨A5.out.drew⟩, ⟨N5.out.drew⟩, ⟨R5.out.drew⟩⟩ (fun hHeld => ?_)
      refine with_tabW poly_mac10.tab10 poly_mac10.bits10 (fun HT_ HW_ => ?_)
      have L6 := Aside0.mk (show Below w.heap.size w w5.drew from L5.out.drew)
      generalize w5.drew = w6 at L6 hHeld ⊢
      refine take_ (i := 0) (N := some 38) (v := ?_) (a' := ?_) #[true, false, false, false, false, false] rfl rfl (take_ofW HT_.out HW_.out (by kernel_rfl)) (fun _ _ _ h => h) (Or.inl ⟨by rfl, ?_⟩) hHeld ?_ ?_
      rotate_left
      · intro w' hS'
        refine exec_load_mid (ty := 58) (x := .tmp 7) (cs := nums .u64 ac) (off := 0) ?_ ?_ ⟨hS'.1.out.out⟩ (nums .u64 ac) (fun i hi => by rw [Nat.zero_add]) (.array 5 56) (by kernel_rfl) rfl ((show _ = some 5 by kernel_rfl).trans (by rw [nums_len, HAL.out]))
        · rfl
        · rfl
      rotate_left
      · simp only [Act.put, List.setIfInBounds_toArray, List.set_cons_zero, List.set_cons_succ, i64_w, i32_w]
        rfl
      refine take_ (i := 1) (N := some 39) (v := ?_) (a' := ?_) #[true, true, false, false, false, false] rfl rfl (take_ofW HT_.out HW_.out (by kernel_rfl)) (fun _ _ _ h => h) (Or.inl ⟨by rfl, ?_⟩) hHeld ?_ ?_
      rotate_left
      · intro w' hS'
        refine exec_load_mid (ty := 58) (x := .tmp 10) (cs := nums .u64 nn) (off := 0) ?_ ?_ ⟨hS'.2.1.out.out⟩ (nums .u64 nn) (fun i hi => by rw [Nat.zero_add]) (.array 5 56) (by kernel_rfl) rfl ((show _ = some 5 by kernel_rfl).trans (by rw [nums_len, HNL.out]))
        · rfl
        · rfl
      rotate_left
      · simp only [Act.put, List.setIfInBounds_toArray, List.set_cons_zero, List.set_cons_succ, i64_w, i32_w]
        rfl
      refine take_ (i := 3) (N := some 41) (v := ?_) (a' := ?_) #[true, true, false, true, false, false] rfl rfl (take_ofW HT_.out HW_.out (by kernel_rfl)) (fun _ _ _ h => h) (Or.inl ⟨by rfl, ?_⟩) hHeld ?_ ?_
      rotate_left
      · intro w' hS'
        refine exec_load_mid (ty := 58) (x := .tmp 6) (cs := nums .u64 r) (off := 0) ?_ ?_ ⟨hS'.2.2.out.out⟩ (nums .u64 r) (fun i hi => by rw [Nat.zero_add]) (.array 5 56) (by kernel_rfl) rfl ((show _ = some 5 by kernel_rfl).trans (by rw [nums_len, HRL.out]))
        · rfl
        · rfl
      rotate_left
      · simp only [Act.put, List.setIfInBounds_toArray, List.set_cons_zero, List.set_cons_succ, i64_w, i32_w]
        rfl
      refine one_ (i := 2) (N := some 40) #[true, true, true, true, false, false] rfl rfl (one_of HT_.out (by kernel_rfl)) (by decide) (fun K hK => ?_)
      refine goes_ Try.func49 (by kernel_rfl) rfl #[.agg (nums .u64 ac).toArray, .agg (nums .u64 nn).toArray] (by rfl) rfl rfl (by (try simp only [List.map_toArray, List.map_cons, List.map_nil]); first | done | rfl) ?_
      have hcall := plus_any ac nn w6 HAL.out HNL.out
      rw [← HPW.out] at hcall
      with_reducible refine hcall.mono ?_
      clear hcall
      rintro e w' ⟨rfl, l7⟩
      refine ⟨_, rfl, ?_⟩
      have n1_ := Aside0.mk (below_then L6.out L6.out.size l7)
      refine hK.out _ _ ⟨⟨hHeld.1.out.below l7⟩, ⟨hHeld.2.1.out.below l7⟩, ⟨hHeld.2.2.out.below l7⟩⟩ (fun hHeld => ?_)
      clear L6 hK K l7
      have L7 := n1_
      clear n1_
      generalize w' = w7 at hHeld L7 ⊢
      refine norm_ (a' := ?_) ?_ ?_
      rotate_left
      · show Act.put _ (some 40) _ = _
        simp only [Act.put, List.setIfInBounds_toArray, List.set_cons_zero, List.set_cons_succ, i64_w, i32_w]
        rfl
      refine one_ (i := 4) (N := some 42) #[true, true, true, true, true, false] rfl rfl (one_of HT_.out (by kernel_rfl)) (by decide) (fun K hK => ?_)
      refine goes_ Try.func50 (by kernel_rfl) rfl #[.agg (nums .u64 pw).toArray, .agg (nums .u64 r).toArray] (by rfl) rfl rfl (by (try simp only [List.map_toArray, List.map_cons, List.map_nil]); first | done | rfl) ?_
      have hcall := times_any pw r w7 HPL.out HRL.out
      rw [← HTW.out] at hcall
      with_reducible refine hcall.mono ?_
      clear hcall
      rintro e w' ⟨rfl, l8⟩
      refine ⟨_, rfl, ?_⟩
      have n1_ := Aside0.mk (below_then L7.out L7.out.size l8)
      refine hK.out _ _ ⟨⟨hHeld.1.out.below l8⟩, ⟨hHeld.2.1.out.below l8⟩, ⟨hHeld.2.2.out.below l8⟩⟩ (fun hHeld => ?_)
      clear L7 hK K l8
      have L8 := n1_
      clear n1_
      generalize w' = w8 at hHeld L8 ⊢
      refine norm_ (a' := ?_) ?_ ?_
      rotate_left
      · show Act.put _ (some 42) _ = _
        simp only [Act.put, List.setIfInBounds_toArray, List.set_cons_zero, List.set_cons_succ, i64_w, i32_w]
        rfl
      refine last_ (i := 5) (N := none) #[true, true, true, true, true, true] rfl rfl (one_of HT_.out (by kernel_rfl)) (by decide) (fun K hK => ?_)
      refine step_store_mid (cs := nums .u64 ac) (t := 58) rfl rfl _ _ _ rfl 0 (by rfl) (nums .u64 tw) (by rfl) ⟨hHeld.1.out.out⟩ (by rw [nums_len, nums_len, HTL.out, HAL.out]; decide) ((show _ = some 5 by kernel_rfl).trans (by rw [nums_len, HTL.out])) oneCell_nums ?_
      intro w9 B9 g9 s9
      refine hK.out _ _ ?_
      clear hK K
      refine done_ (done_of HT_.out (by kernel_rfl)) ?_
      have A9 := Aside0.mk (show Blk w9 ga 58 .u64 tw from ⟨by
        have e := splice_all (nums .u64 ac) (nums .u64 tw) (by rw [nums_len, nums_len, HTL.out, HAL.out])
        rw [← e]
        exact B9.out⟩)
      have R9 := Aside0.mk (hHeld.2.2.out.grown g9 (fun e => by have := Option.some.inj e; omega))
      have L9 := Aside0.mk (L8.out.grown g9 (by have := L8.out.size; omega) (fun j e => by have := Option.some.inj e; omega))
      clear B9 g9 s9 hHeld L8
      go_wp2
      go_roundw
      case rel =>
        refine ⟨p + 16, k + 1, by have := HP.out; omega, by omega, by go_num, R9, ?_, L9⟩
        rw [accI, ← HPK.out, ← HAC.out, ← HNN.out, ← HPW.out, ← HTW.out]
        exact A9
      case measure => simp [intOf]; omega
    · have q1 : ((p : Int) < (b.length : Int)) = False := eq_false (by omega)
      have hk : k = (b.length + 15) / 16 := by omega
      have hal := accI_length r b k
      obtain ⟨ac, hac⟩ : ∃ ac, ac = accI r b k := ⟨_, rfl⟩
      rw [← hac] at HA0 hal
      rw [hk] at hac
      obtain ⟨wh, hwh⟩ : ∃ wh, wh = wholeW ac := ⟨_, rfl⟩
      have hwl : wh.length = 5 := by rw [hwh, wholeW_length]; exact hal
      have hcallw := whole_any ac
      rw [← hwh] at hcallw
      have HAC := Aside0.mk hac
      have HWH := Aside0.mk hwh
      have HCW := Aside0.mk hcallw
      clear hac hwh hcallw hk hp hpb
      obtain ⟨i0, hi0, _, hsz0, _⟩ := info_parts info5
      obtain ⟨Ad, hcut, hrdd, hcld⟩ := print_drop_of (P := Try.prog) (Value.int .u8) 0 28 5 .i64 Try.underlying28 hi0 hsz0 A0 c0 key 16 (by decide) (by have := H32.out; omega) hc0
      rw [show (16 : Int).toNat = 16 from rfl] at hcut hrdd hcld
      obtain ⟨kd, hkd⟩ : ∃ kd, kd = key.drop 16 := ⟨_, rfl⟩
      rw [← hkd] at hcut hrdd hcld HO2
      obtain ⟨sw, hsw⟩ : ∃ sw, sw = ofW kd := ⟨_, rfl⟩
      have hsl : sw.length = 5 := by rw [hsw]; exact ofW_length _
      have hkl : kd.length ≤ 17 := by rw [hkd, List.length_drop]; have := H32.out; omega
      have HRD := Aside0.mk hrdd
      have HKD := Aside0.mk hkd
      have HSW := Aside0.mk hsw
      have HSL := Aside0.mk hsl
      have HWL := Aside0.mk hwl
      clear hrdd hkd hsw hsl
      go_wp2_with (refine load_blk rfl _ _ rfl rfl HA0.out 5 56 (by kernel_rfl) (by kernel_rfl) hal ?_)
      refine (HCW.out wr hal).mono ?_
      rintro e w3 ⟨rfl, l3⟩
      have L3 := Aside0.mk (below_then HB0.out HB0.out.size l3)
      have A3 := Aside0.mk (HA0.out.below l3)
      have hga3 : ga < w3.heap.size := A3.out.lt
      clear l3 HB0 HA0 HR0
      go_wp2_with (refine store_blk rfl _ _ _ rfl rfl wh rfl A3.out 5 (by kernel_rfl) hal hwl ?_; intro w4 A4 g4 z4; have L4 := Aside0.mk (L3.out.grown g4 (by have := L3.out.size; omega) (fun j e => by have := Option.some.inj e; omega)); have hga4 : ga < w4.heap.size := A4.lt; replace A4 := Aside0.mk A4; clear g4 z4)
      have hCd := Kd.C_of_reads (enc := Value.int .u8) (d := (0 : Int)) (h1 := fun _ => rfl) (HRD.out w4 (Kd.reads_of_C (enc := Value.int .u8) (d := (0 : Int)) (h1 := fun _ => rfl) (Kd.C_below HK.out L4.out)))
      have hco := of_any Ad (c0 - 16) kd w4 hCd hcld hkl HO2.out
      rw [← HSW.out] at hco
      refine hco.mono ?_
      clear hco hCd
      rintro e w5 ⟨rfl, l5⟩
      have L5 := Aside0.mk (below_then L4.out L4.out.size l5)
      have A5 := Aside0.mk (A4.out.below l5)
      have hga5 : ga < w5.heap.size := A5.out.lt
      clear l5 L4 A4
      have hsl := HSL.out
      go_wp2_with (refine store_blk rfl _ _ _ rfl rfl sw rfl (Blk.at0 w5 58 .u64 (List.replicate 5 0) _ rfl) 5 (by kernel_rfl) rfl hsl ?_; intro w6 S6 g6 z6; have L6 := Aside0.mk ((L5.out.alloc (by have := L5.out.size; omega) (.cells (nums .u64 (List.replicate 5 0)).toArray 58)).grown g6 (by have := L5.out.size; simp; omega) (fun j e => by have := Option.some.inj e; have := L5.out.size; omega)); have A6 := Aside0.mk ((A5.out.alloc (.cells (nums .u64 (List.replicate 5 0)).toArray 58)).grown g6 (fun e => by have := Option.some.inj e; omega)); have hz6 : w5.heap.size < w6.heap.size := S6.lt; replace S6 := Aside0.mk S6; clear g6 z6)
      obtain ⟨gs, hgs⟩ : ∃ gs, gs = w5.heap.size := ⟨_, rfl⟩
      rw [← hgs] at S6 hga5 ⊢
      have hws : w.heap.size ≤ gs := by have := L5.out.size; omega
      clear hgs hz6 L5 A5 hga3 hga4 HRD HCW hal
      have HWL2 := Aside0.mk hwl
      clear hwl
      go_loopw [48] (fun iv ws => ∃ j : Nat, j ≤ 5 ∧ iv = .int .i64 j ∧ Aside0 (Blk ws ga 58 .u64 (addN wh sw j)) ∧ Aside0 (Blk ws gs 58 .u64 sw) ∧ Aside0 (Below w.heap.size w ws)) (fun iv _ => 5 - (intOf iv).toNat)
      case atStart => exact ⟨0, Nat.zero_le _, rfl, A6, S6, L6⟩
      case round =>
        clear A6 S6 L6
        obtain ⟨j, hj, rfl, H1, H2, H3⟩ := hrel
        by_cases hjt : j < 5
        · have p2 : (0 ≤ (j : Int)) = True := eq_true (by omega)
          have q2 : ((j : Int) < 5) = True := eq_true (by omega)
          have hcell : wr.cell? ⟨ga, j, none⟩ = some (.int .u64 (rd (addN wh sw j) j)) := H1.out.cell (j : Int) (by omega) (by rw [addN_length, HWL2.out]; omega)
          have hcell2 : wr.cell? ⟨gs, j, none⟩ = some (.int .u64 (rd sw j)) := H2.out.cell (j : Int) (by omega) (by omega)
          have hfz := H1.out.frozen j
          go_wp2
          go_region
          go_wp2
          go_roundw
          case rel =>
            refine ⟨j + 1, by omega, by go_num, ?_, ?_, ?_⟩
            · exact ⟨(H1.out.set j (IntKind.u64.wrap (rd (addN wh sw j) j + rd sw j))).drew⟩
            · exact ⟨(H2.out.far (by simp; omega) _).drew⟩
            · exact ⟨(H3.out.setCell (by simp; omega) _).drew⟩
          case measure => simp [intOf]; omega
        · obtain rfl : j = 5 := by omega
          have q2 : ((5 : Int) < 5) = False := eq_false (by omega)
          have hln : (addN wh sw 5).length = 5 := by rw [addN_length]; exact HWL2.out
          have hfin : bytesW (addN wh sw 5) = macP key b := by rw [macP, HWH.out, HSW.out, HKD.out, ← hr.out, ← HAC.out]
          obtain ⟨fin, hf⟩ : ∃ fin, fin = addN wh sw 5 := ⟨_, rfl⟩
          rw [← hf] at H1 hln hfin
          replace hfin := Aside0.mk hfin
          clear hf H2
          go_wp2_with (refine load_blk rfl _ _ rfl rfl H1.out 5 56 (by kernel_rfl) (by kernel_rfl) hln ?_)
          refine (bytes_any fin wr hln).mono ?_
          rintro e w9 ⟨v9, rfl, O9, l9⟩
          have L9 := Aside0.mk (below_then H3.out H3.out.size l9)
          have O10 := Aside0.mk (O9.lower (b2 := w.heap.size) H3.out.size)
          rw [hfin.out] at O10
          clear l9 O9
          go_wp2
          exact bodyPost_ret (results_tmp2 rfl _ _ _) rfl ⟨_, rfl, O10.out, L9.out⟩
end Go.Proofs.Ytllaobhheokafaa.Q
