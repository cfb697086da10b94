/- The tops of a list on the way to its root: what putting two together leaves. -/
import Derived.Test.YtgdogjnjbinoiaaDoorCmerk
import Derived.Test.YtgdogjnjbinoiaaDoorHtzX
namespace Go.Proofs.YtgdogjnjbinoiaaDoor.Q
open Go.RowKit Go.Proofs.YtgdogjnjbinoiaaDoorW.PrintWords Go.Proofs.YtgdogjnjbinoiaaDoorW.PrintLast Go.Proofs.YtgdogjnjbinoiaaDoorW.PrintMore Go.Proofs.YtgdogjnjbinoiaaDoor.H
set_option linter.unusedVariables false
set_option linter.unusedSimpArgs false
def nodeW (a b : List Int) : List Int := shaW (1 :: (a ++ b))
/-- The two last put together. -/
def joinL (ts : List (List Int)) : List (List Int) := ts.take (ts.length - 2) ++ [nodeW (rd_L1 ts ((ts.length - 2 : Nat) : Int)) (rd_L1 ts ((ts.length - 1 : Nat) : Int))]
theorem joinL_length (ts : List (List Int)) (h : 2 ≤ ts.length) : (joinL ts).length = ts.length - 1 := by
  rw [joinL, List.length_append, List.length_take]
  simp only [List.length_cons, List.length_nil]
  omega
/-- The variable at P holds the tops; they and their rows lie above it. -/
structure Tops (w : World) (P : Nat) (ts : List (List Int)) : Prop where mk :: (out : ∃ v, w.heap[P]? = some (.cells #[v] 22 (0, 0)) ∧ Kd.R (Kd.slice 5 (Kd.int .u8)) 31 w (P + 1) (fun _ => True) v ts)
/-- Two rows laid beside one another are read. -/
theorem rows2 (w : World) (A0 A1 : Option Addr) (l0 l1 : List Int) (c0 c1 : Nat) (h0 : Kd.C (Kd.int .u8) w A0 l0.length l0) (k0 : l0.length ≤ c0) (h1 : Kd.C (Kd.int .u8) w A1 l1.length l1) (k1 : l1.length ≤ c1) :
    Kd.C (Kd.slice 5 (Kd.int .u8)) (w.alloc (.cells #[.slice A0 l0.length c0, .slice A1 l1.length c1] 31)) (some ⟨w.heap.size, 0, none⟩) 2 [l0, l1] := by
  have hcell : ∀ (j : Nat) (u : Value), (#[.slice A0 l0.length c0, .slice A1 l1.length c1] : Array Value)[j]? = some u → (w.alloc (.cells #[.slice A0 l0.length c0, .slice A1 l1.length c1] 31)).cell? ((⟨w.heap.size, 0, none⟩ : Addr).add j) = some u := fun j u hu => by
    rw [show ((⟨w.heap.size, 0, none⟩ : Addr).add j) = ⟨w.heap.size, j, none⟩ from (by simp [Addr.add]; exact Eq.symm), World.cell?_alloc_new]
    exact hu
  refine ⟨rfl, by decide, fun _ => ⟨_, rfl, fun j p hj => ?_⟩⟩
  match j, hj with
  | 0, hj =>
    obtain rfl := Option.some.inj hj
    refine ⟨[.slice A0 l0.length c0], rfl, ⟨A0, c0, rfl, k0, Kd.C_alloc h0 _⟩, fun i u hu => ?_⟩
    match i, hu with
    | 0, hu => exact hcell 0 u hu
  | 1, hj =>
    obtain rfl := Option.some.inj hj
    refine ⟨[.slice A1 l1.length c1], rfl, ⟨A1, c1, rfl, k1, Kd.C_alloc h1 _⟩, fun i u hu => ?_⟩
    match i, hu with
    | 0, hu => exact hcell 1 u hu
set_option maxHeartbeats 1000000 in
set_option maxRecDepth 100000 in
theorem node_any (A0 A1 : Option Addr) (c0 c1 : Nat) (l0 l1 : List Int) (w : World) (h0 : Kd.C (Kd.int .u8) w A0 l0.length l0) (k0 : l0.length ≤ c0) (h1 : Kd.C (Kd.int .u8) w A1 l1.length l1) (k1 : l1.length ≤ c1) (m0 : l0.length ≤ 1000000) (m1 : l1.length ≤ 1000000) :
    Calls Tryd.prog 18 #[.slice A0 l0.length c0, .slice A1 l1.length c1] w fun e w' => ∃ v, e = .returned v ∧ Own w' w.heap.size 5 .u8 v (nodeW l0 l1) ∧ Below w.heap.size w w' := by
  have HR := Aside0.mk (rows2 w A0 A1 l0 l1 c0 c1 h0 k0 h1 k1)
  have L1 := Aside0.mk ((Below.refl w.heap.size w).alloc (Nat.le_refl _) (.cells #[.slice A0 l0.length c0, .slice A1 l1.length c1] 31))
  clear h0 h1
  go_enter Tryd.func18, Tryd.ntmps18
  go_wp2_with fail
  refine (summed_any 1 _ 2 [l0, l1] _ HR.out (Nat.le_refl _) (by simp; omega) (by simp)).mono ?_
  rintro e w2 ⟨v, rfl, O2, l2⟩
  rw [show ([l0, l1] : List (List Int)).flatten = l0 ++ l1 by simp] at O2
  go_wp2
  go_ret
  exact ⟨v, rfl, O2.lower L1.out.size, below_then L1.out L1.out.size l2⟩
def root_join.T1 : Bool × List (List Nat × List Nat) := (true, [([], []), ([], []), ([1], [1]), ([0, 2], [0, 2]), ([3], [3]), ([], []), ([], []), ([6], [6]), ([5, 7], [5, 7]), ([8], [8]), ([4, 9], [4, 9]), ([10, 10, 0, 1, 2, 3, 4, 5, 6, 7, 8, 9, 10], [10])])
def root_join.B1 : List Nat := [0, 0, 2, 7, 15, 0, 0, 64, 224, 480, 1023, 2047]
theorem root_join.tab1 : rtab .any (opsOf Tryd.f38 1) = root_join.T1 := by kernel_rfl
theorem root_join.bits1 : waitsOk root_join.T1.2 root_join.B1 = true := by kernel_rfl
set_option maxHeartbeats 1000000 in
set_option maxRecDepth 100000 in
theorem join_any (P : Nat) (ts : List (List Int)) (w : World) (hT : Tops w P ts) (h2 : 2 ≤ ts.length) (hl : ts.length ≤ 100000) (hb : ∀ x ∈ ts, x.length ≤ 1000000) :
    Calls Tryd.prog 38 #[.pointer (some ⟨P, 0, none⟩)] w fun e w' => e = .returned (.tuple #[]) ∧ Tops w' P (joinL ts) ∧ Below P w w' := by
  obtain ⟨v, hP, hR⟩ := hT.out
  obtain ⟨A, c, rfl⟩ := Kd.R_slice hR
  have hC := (Kd.R_reads' hR).2.2
  obtain ⟨ad, A1, c1, e1, x1, l1, r1⟩ := at_L1 hC ((ts.length - 2 : Nat) : Int) (by omega) (by omega)
  subst e1
  obtain ⟨ad', A2, c2, e2, x2, l2, r2⟩ := at_L1 hC ((ts.length - 1 : Nat) : Int) (by omega) (by omega)
  cases e2
  rw [Int.toNat_natCast] at x1 x2
  have hp := cell_of_one hP
  have hi1 : ts.length - 2 < ts.length := by omega
  have hi2 : ts.length - 1 < ts.length := by omega
  have b1 : (rd_L1 ts ((ts.length - 2 : Nat) : Int)).length ≤ 1000000 := by
    have : rd_L1 ts ((ts.length - 2 : Nat) : Int) = ts[ts.length - 2] := by simp [rd_L1, List.getD_eq_getElem?_getD, hi1]
    rw [this]
    exact hb _ (List.getElem_mem hi1)
  have b2 : (rd_L1 ts ((ts.length - 1 : Nat) : Int)).length ≤ 1000000 := by
    have : rd_L1 ts ((ts.length - 1 : Nat) : Int) = ts[ts.length - 1] := by simp [rd_L1, List.getD_eq_getElem?_getD, hi2]
    rw [this]
    exact hb _ (List.getElem_mem hi2)
  have hj : Aside0 (joinL ts = ts.take (ts.length - 2) ++ [nodeW (rd_L1 ts ((ts.length - 2 : Nat) : Int)) (rd_L1 ts ((ts.length - 1 : Nat) : Int))]) := ⟨rfl⟩
  obtain ⟨a1, ha1⟩ : ∃ a1, a1 = rd_L1 ts ((ts.length - 2 : Nat) : Int) := ⟨_, rfl⟩
  obtain ⟨a2, ha2⟩ : ∃ a2, a2 = rd_L1 ts ((ts.length - 1 : Nat) : Int) := ⟨_, rfl⟩
  rw [← ha1] at hj x1 l1 r1 b1
  rw [← ha2] at hj x2 l2 r2 b2
  clear ha1 ha2 hC hi1 hi2
  obtain ⟨n, hn⟩ : ∃ n, ts.length = n + 2 := ⟨ts.length - 2, by omega⟩
  have HR := Aside0.mk hR
  have HP := Aside0.mk hP
  have hPlt : P < w.heap.size := (Array.getElem?_eq_some_iff.1 hP).1
  clear hR hP
  rw [show ts.length - 2 = n by omega] at x1 hj
  rw [show ts.length - 1 = n + 1 by omega] at x2
  rw [hn] at hp
  have HN := Aside0.mk hn
  have hn' : n ≤ 99998 := by omega
  replace x1 := Aside0.mk x1
  replace x2 := Aside0.mk x2
  replace r1 := Aside0.mk r1
  replace r2 := Aside0.mk r2
  go_enter Tryd.func38, Tryd.ntmps38
  go_wp2
  replace hp := Aside0.mk hp
  refine start_ (n := 12) (S := fun w' => Aside0 (w'.cell? ⟨P, 0, none⟩ = some (.slice (some ad) (n + 2) c)) ∧ Aside0 (w'.cell? (ad.add n) = some (.slice A1 a1.length c1)) ∧ Aside0 (w'.cell? (ad.add (n + 1)) = some (.slice A2 a2.length c2))) (ds := []) #[false, false, false, false, false, false, false, false, false, false, false, false] (by kernel_rfl) rfl rfl ⟨⟨hp.out⟩, ⟨x1.out⟩, ⟨x2.out⟩⟩ (fun hHeld => ?_)
  refine with_tabW root_join.tab1 root_join.bits1 (fun HT_ HW_ => ?_)
  have L3 := Aside0.mk (below_drew1 (Below.refl w.heap.size w))
  have R1 := Aside0.mk (Kd.C_drew r1.out)
  have R2 := Aside0.mk (Kd.C_drew r2.out)
  have hz3 : w.heap.size ≤ w.drew.heap.size := Nat.le_refl _
  generalize w.drew = w3 at L3 R1 R2 hz3 hHeld ⊢
  have hw1 : wrap64 (n : Int) = n := F.w64 (by omega) (by omega)
  have hw2 : wrap64 ((n : Int) + 2 - 1) = (n : Int) + 1 := by rw [show (n : Int) + 2 - 1 = (n : Int) + 1 by omega]; exact F.w64 (by omega) (by omega)
  have p0 : (0 ≤ (n : Int)) = True := eq_true (by clear hw1 hw2; omega)
  have q0 : ((n : Int) < (n : Int) + 2) = True := eq_true (by clear hw1 hw2; omega)
  have p1 : (0 ≤ (n : Int) + 1) = True := eq_true (by clear hw1 hw2; omega)
  have q1 : ((n : Int) + 1 < (n : Int) + 2) = True := eq_true (by clear hw1 hw2; omega)
  have t1 : ((n : Int) + 1).toNat = n + 1 := by clear hw1 hw2; omega
  refine take_ (i := 0) (N := some 5) (v := ?_) (a' := ?_) #[true, false, false, false, false, false, false, false, false, false, false, false] rfl rfl (take_ofW HT_.out HW_.out (by kernel_rfl)) (fun _ _ _ h => h) (Or.inl ⟨by rfl, ?_⟩) hHeld ?_ ?_
  rotate_left
  · intro w' hS'
    have hc := hS'.1.out
    go_simp
    with_reducible rfl
  rotate_left
  · simp only [Act.put, List.setIfInBounds_toArray, List.set_cons_zero, List.set_cons_succ, i64_w, i32_w]
    rfl
  refine pure_ (i := 1) (N := some 6) (v := ?_) (a' := ?_) #[true, true, false, false, false, false, false, false, false, false, false, false] rfl rfl (any_of HT_.out (by kernel_rfl)) (fun _ _ _ h => h) (Or.inl ⟨by rfl, ?_⟩) ?_ ?_
  rotate_left
  · intro w'
    go_simp
    with_reducible rfl
  rotate_left
  · simp only [Act.put, List.setIfInBounds_toArray, List.set_cons_zero, List.set_cons_succ, i64_w, i32_w]
    rfl
  refine pure_ (i := 2) (N := some 7) (v := ?_) (a' := ?_) #[true, true, true, false, false, false, false, false, false, false, false, false] rfl rfl (any_of HT_.out (by kernel_rfl)) (fun _ _ _ h => h) (Or.inl ⟨by rfl, ?_⟩) ?_ ?_
  rotate_left
  · intro w'
    go_simp
    with_reducible rfl
  rotate_left
  · simp only [Act.put, List.setIfInBounds_toArray, List.set_cons_zero, List.set_cons_succ, i64_w, i32_w]
    rfl
  refine pure_ (i := 3) (N := some 8) (v := ?_) (a' := ?_) #[true, true, true, true, false, false, false, false, false, false, false, false] rfl rfl (any_of HT_.out (by kernel_rfl)) (fun _ _ _ h => h) (Or.inl ⟨by rfl, ?_⟩) ?_ ?_
  rotate_left
  · intro w'
    go_simp
    with_reducible rfl
  rotate_left
  · simp only [Act.put, List.setIfInBounds_toArray, List.set_cons_zero, List.set_cons_succ, i64_w, i32_w]
    rfl
  refine take_ (i := 4) (N := some 9) (v := ?_) (a' := ?_) #[true, true, true, true, true, false, false, false, false, false, false, false] rfl rfl (take_ofW HT_.out HW_.out (by kernel_rfl)) (fun _ _ _ h => h) (Or.inl ⟨by rfl, ?_⟩) hHeld ?_ ?_
  rotate_left
  · intro w' hS'
    have hc := hS'.2.1.out
    go_simp
    with_reducible rfl
  rotate_left
  · simp only [Act.put, List.setIfInBounds_toArray, List.set_cons_zero, List.set_cons_succ, i64_w, i32_w]
    rfl
  refine take_ (i := 5) (N := some 10) (v := ?_) (a' := ?_) #[true, true, true, true, true, true, false, false, false, false, false, false] rfl rfl (take_ofW HT_.out HW_.out (by kernel_rfl)) (fun _ _ _ h => h) (Or.inl ⟨by rfl, ?_⟩) hHeld ?_ ?_
  rotate_left
  · intro w' hS'
    have hc := hS'.1.out
    go_simp
    with_reducible rfl
  rotate_left
  · simp only [Act.put, List.setIfInBounds_toArray, List.set_cons_zero, List.set_cons_succ, i64_w, i32_w]
    rfl
  refine pure_ (i := 6) (N := some 11) (v := ?_) (a' := ?_) #[true, true, true, true, true, true, true, false, false, false, false, false] rfl rfl (any_of HT_.out (by kernel_rfl)) (fun _ _ _ h => h) (Or.inl ⟨by rfl, ?_⟩) ?_ ?_
  rotate_left
  · intro w'
    go_simp
    with_reducible rfl
  rotate_left
  · simp only [Act.put, List.setIfInBounds_toArray, List.set_cons_zero, List.set_cons_succ, i64_w, i32_w]
    rfl
  refine pure_ (i := 7) (N := some 12) (v := ?_) (a' := ?_) #[true, true, true, true, true, true, true, true, false, false, false, false] rfl rfl (any_of HT_.out (by kernel_rfl)) (fun _ _ _ h => h) (Or.inl ⟨by rfl, ?_⟩) ?_ ?_
  rotate_left
  · intro w'
    go_simp
    with_reducible rfl
  rotate_left
  · simp only [Act.put, List.setIfInBounds_toArray, List.set_cons_zero, List.set_cons_succ, i64_w, i32_w]
    rfl
  refine pure_ (i := 8) (N := some 13) (v := ?_) (a' := ?_) #[true, true, true, true, true, true, true, true, true, false, false, false] rfl rfl (any_of HT_.out (by kernel_rfl)) (fun _ _ _ h => h) (Or.inl ⟨by rfl, ?_⟩) ?_ ?_
  rotate_left
  · intro w'
    go_simp
    with_reducible rfl
  rotate_left
  · simp only [Act.put, List.setIfInBounds_toArray, List.set_cons_zero, List.set_cons_succ, i64_w, i32_w]
    rfl
  refine take_ (i := 9) (N := some 14) (v := ?_) (a' := ?_) #[true, true, true, true, true, true, true, true, true, true, false, false] rfl rfl (take_ofW HT_.out HW_.out (by kernel_rfl)) (fun _ _ _ h => h) (Or.inl ⟨by rfl, ?_⟩) hHeld ?_ ?_
  rotate_left
  · intro w' hS'
    have hc := hS'.2.2.out
    rw [show ad.add (n + 1) = { block := ad.block, off := ad.off + (n + 1) } from by simp [Addr.add]] at hc
    go_simp
    with_reducible rfl
  rotate_left
  · simp only [Act.put, List.setIfInBounds_toArray, List.set_cons_zero, List.set_cons_succ, i64_w, i32_w]
    rfl
  refine one_ (i := 10) (N := some 15) #[true, true, true, true, true, true, true, true, true, true, true, false] rfl rfl (one_of HT_.out (by kernel_rfl)) (by decide) (fun K hK => ?_)
  refine goes_ Tryd.func18 (by kernel_rfl) rfl #[.slice A1 a1.length c1, .slice A2 a2.length c2] (by rfl) rfl rfl (by (try simp only [List.map_toArray, List.map_cons, List.map_nil]); first | done | rfl) ?_
  with_reducible refine (node_any A1 A2 c1 c2 a1 a2 w3 R1.out l1 R2.out l2 b1 b2).mono ?_
  rintro e w' ⟨v1, rfl, O1, l4⟩
  refine ⟨_, rfl, ?_⟩
  have L4 := Aside0.mk (below_then L3.out L3.out.size l4)
  replace O1 := Aside0.mk (O1.lower L3.out.size)
  refine hK.out _ _ ⟨⟨(l4.cell (World.block_lt_of_cell? _ _ hHeld.1.out)).trans hHeld.1.out⟩, ⟨(l4.cell (World.block_lt_of_cell? _ _ hHeld.2.1.out)).trans hHeld.2.1.out⟩, ⟨(l4.cell (World.block_lt_of_cell? _ _ hHeld.2.2.out)).trans hHeld.2.2.out⟩⟩ (fun hHeld => ?_)
  clear hK K l4
  refine norm_ (a' := ?_) ?_ ?_
  rotate_left
  · show Act.put _ (some 15) _ = _
    simp only [Act.put, List.setIfInBounds_toArray, List.set_cons_zero, List.set_cons_succ, i64_w, i32_w]
    rfl
  refine pure_ (i := 11) (N := some 2) (v := ?_) (a' := ?_) #[true, true, true, true, true, true, true, true, true, true, true, true] rfl rfl (any_of HT_.out (by kernel_rfl)) (fun _ _ _ h => h) (Or.inl ⟨by rfl, ?_⟩) ?_ ?_
  rotate_left
  · intro w'
    go_simp
    with_reducible rfl
  rotate_left
  · simp only [Act.put, List.setIfInBounds_toArray, List.set_cons_zero, List.set_cons_succ, i64_w, i32_w]
    rfl
  refine done_ (done_of HT_.out (by kernel_rfl)) ?_
  clear hw1 hw2 p0 q0 p1 q1 t1 HT_ HW_
  have hp4 := hHeld.1.out
  clear hHeld
  have hadlt : ad.block < w.heap.size := Kd.R_lt HR.out _ rfl
  have hP4 : w'.heap[P]? = some (.cells #[.slice (some ad) (n + 2) c] 22 (0, 0)) := by
    rw [L4.out.block P hPlt, HP.out, HN.out]
  obtain ⟨A3, c3, rfl, C3, k3⟩ : ∃ A c, v1 = .slice A (nodeW a1 a2).length c ∧ Kd.C (Kd.int .u8) w' A (nodeW a1 a2).length (nodeW a1 a2) ∧ (nodeW a1 a2).length ≤ c := by
    obtain ⟨A, c, rfl⟩ := Kd.R_slice O1.out.toR
    exact ⟨A, c, rfl, (Kd.R_reads' O1.out.toR).2.2, (Kd.R_reads' O1.out.toR).2.1⟩
  clear C3 k3 R1 R2 hz3 L3
  have HT4 := Aside0.mk (Kd.R_take (m := n) (Kd.R_below HR.out L4.out) (by rw [HN.out]; omega))
  have HM := Aside0.mk (show Kd.R (Kd.int .u8) 5 w' (P + 1) (fun k => some k ≠ (Value.slice (some ad) n c).ownBlock) (.slice A3 (nodeW a1 a2).length c3) (nodeW a1 a2) from Kd.R_lower (Kd.R_mono (Kd.R_bound O1.out.toR) (fun k hk h => by
    have h := Option.some.inj h
    have := hk.2.1
    change k = ad.block at h
    omega)) (by omega))
  clear O1
  obtain ⟨i0, hi0, _, hsz0, _⟩ := info_parts info31
  have hz4 := L4.out.size
  have hcap : n + 2 ≤ c := by
    have := (Kd.R_reads' HR.out).2.1
    rw [HN.out] at this
    exact this
  have hcut := cut_to (P := Tryd.prog) 22 31 .i64 Tryd.underlying22 hi0 (some ad) (n + 2) c (n : Int) (by omega) (by omega) hcap
  rw [Int.toNat_natCast] at hcut
  have hnl : (nodeW a1 a2).length ≤ 9999 := by rw [nodeW, shaW_length]; decide
  generalize nodeW a1 a2 = nd at *
  clear hi0 hsz0
  go_wp2_with (at_builtin; refine Kd.R_append (Kd.slice 5 (Kd.int .u8)) (w0 := w') (W := w') (P + 1) rfl _ _ 22 31 (.slice none 0 0) 24 rfl Tryd.underlying22 info31 rfl (by decide) (by decide) (.slice (some ad) n c) (ts.take n) nd [.slice A3 nd.length c3] (fun _ => True) (fun k => some k ≠ (Value.slice (some ad) n c).ownBlock) rfl rfl ⟨_, rfl, HM.out⟩ (fun k hk => ⟨trivial, hk⟩) (fun _ _ => trivial) HT4.out (Below.refl _ _) (by omega) (by rw [List.length_take]; omega) ?_; intro v5 w5 h1 h2 h3 h4; obtain ⟨A5, c5, rfl⟩ := Kd.R_slice h1; have H5 := Aside0.mk h1; have B5 := Aside0.mk h2; have hP5 : w5.heap[P]? = some (.cells #[.slice (some ad) (n + 2) c] 22 (0, 0)) := (h2.block P (by omega)).trans hP4; have hp5 := cell_of_one hP5; have hf5 := free_of_one hP5; clear h1 h2 h3 h4)
  have hfin : Tops (w5.setCell ⟨P, 0, none⟩ (.slice A5 (ts.take n ++ [nd]).length c5)) P (joinL ts) ∧ Below P w (w5.setCell ⟨P, 0, none⟩ (.slice A5 (ts.take n ++ [nd]).length c5)) := by
    refine ⟨⟨_, one_setCell hP5, ?_⟩, ?_⟩
    · rw [hj.out]
      exact Kd.R_mono (Kd.R_far (p := ⟨P, 0, none⟩) (Kd.R_bound H5.out) (fun k hk => by have := hk.2.1; show k ≠ P; omega) _) (fun _ _ => trivial)
    · exact ((L4.out.mono (by omega)).trans (B5.out.mono (by omega))).setCell (Nat.le_refl P) _
  have hlen : (ts.take n ++ [nd]).length = n + 1 := by rw [List.length_append, List.length_take, HN.out]; simp only [List.length_cons, List.length_nil]; omega
  rw [hlen] at hfin
  go_end0
  exact ⟨rfl, hfin.1, hfin.2⟩
end Go.Proofs.YtgdogjnjbinoiaaDoor.Q
