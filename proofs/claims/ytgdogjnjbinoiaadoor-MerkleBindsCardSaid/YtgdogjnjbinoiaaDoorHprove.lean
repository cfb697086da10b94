/- The proof of a range: what the program's inner walk gathers. -/
import Derived.Test.YtgdogjnjbinoiaaDoorHpart
import Derived.Test.YtgdogjnjbinoiaaDoorHroot
import Derived.Laws.EntriesVeiled
namespace Go.Proofs.YtgdogjnjbinoiaaDoor.Q
open Go.RowKit Go.Proofs.YtgdogjnjbinoiaaDoorW.PrintWords Go.Proofs.YtgdogjnjbinoiaaDoorW.PrintLast Go.Proofs.YtgdogjnjbinoiaaDoorW.PrintMore Go.Proofs.YtgdogjnjbinoiaaDoor.H
set_option linter.unusedVariables false
set_option linter.unusedSimpArgs false
/-- The variable at P holds a row of rows of the call's own. -/
structure TopsS (w : World) (P : Nat) (ts : List (List Int)) : Prop where mk :: (out : ∃ v, w.heap[P]? = some (.cells #[v] 22 (0, 0)) ∧ Kd.S (Kd.slice 5 (Kd.int .u8)) 31 w (P + 1) (fun _ => True) v ts)
/-- What is below B stays, and what is above it and holds no rows. -/
structure Keeps (B : Nat) (w w' : World) : Prop where
  low : Below B w w'
  typ : ∀ k cells t, w.heap[k]? = some (.cells cells t (0, 0)) → t ≠ 31 → k ≠ B → w'.heap[k]? = some (.cells cells t (0, 0))
theorem Keeps.refl (B : Nat) (w : World) : Keeps B w w := ⟨Below.refl B w, fun _ _ _ h _ _ => h⟩
theorem Keeps.trans {B : Nat} {a b c : World} (h : Keeps B a b) (k : Keeps B b c) : Keeps B a c := ⟨h.low.trans k.low, fun x cells t hx ht hB => k.typ x cells t (h.typ x cells t hx ht hB) ht hB⟩
theorem Keeps.of_below {B n : Nat} {w w' : World} (h : Below n w w') (hB : B ≤ n) (hn : w.heap.size ≤ n) : Keeps B w w' := ⟨h.mono hB, fun k cells t hk _ _ => (h.block k (Nat.lt_of_lt_of_le (Array.getElem?_eq_some_iff.1 hk).1 hn)).trans hk⟩
theorem Keeps.set {B : Nat} {a b : World} (h : Keeps B a b) (v : Value) : Keeps B a (b.setCell ⟨B, 0, none⟩ v) := ⟨h.low.setCell (p := ⟨B, 0, none⟩) (Nat.le_refl B) v, fun k cells t hk ht hB => (heap_setCell_other b ⟨B, 0, none⟩ k v hB).trans (h.typ k cells t hk ht hB)⟩
theorem Keeps.grown {B base n : Nat} {α : Type} {d : Kd α} {ok : Nat → Prop} {a b c : World} {v : Value} {xs : List α} (h : Keeps B a b) (hS : Kd.S d 31 b base ok v xs) (hb : B ≤ n) (hl : Below n b c) (hg : b.grownBy c v.ownBlock) : Keeps B a c :=
  ⟨h.low.trans (hl.mono hb), fun k cells t hk ht hB => by
    have h1 := h.typ k cells t hk ht hB
    refine (hg.block k (Array.getElem?_eq_some_iff.1 h1).1 (fun he => ?_)).trans h1
    obtain ⟨cells', hc⟩ := Kd.S_typed hS k he.symm
    rw [h1] at hc
    injection hc with hc
    injection hc with _ hc
    exact ht hc⟩
/-- The function that walks, as a value. -/
def walkV (B : Nat) : Value := .func (.func 31) #[] #[.pointer (some ⟨B + 1, 0, none⟩), .pointer (some ⟨B + 2, 0, none⟩), .pointer (some ⟨B + 3, 0, none⟩), .pointer (some ⟨B, 0, none⟩), .pointer (some ⟨B + 4, 0, none⟩)]
/-- What the walk finds where it is called. -/
structure Ctx (w0 : World) (A0 : Option Addr) (c0 : Nat) (l0 : List (List Int)) (i j : Int) (wr : World) : Prop where
  bel : Below w0.heap.size w0 wr
  hL : wr.heap[w0.heap.size]? = some (.cells #[.slice A0 l0.length c0] 22 (0, 0))
  hI : wr.heap[w0.heap.size + 1]? = some (.cells #[.int .i64 i] 3 (0, 0))
  hJ : wr.heap[w0.heap.size + 2]? = some (.cells #[.int .i64 j] 3 (0, 0))
  hF : wr.heap[w0.heap.size + 4]? = some (.cells #[walkV w0.heap.size] 48 (0, 0))
theorem Ctx.keep {w0 : World} {A0 : Option Addr} {c0 : Nat} {l0 : List (List Int)} {i j : Int} {w w' : World} (h : Ctx w0 A0 c0 l0 i j w) (k : Keeps (w0.heap.size + 3) w w') : Ctx w0 A0 c0 l0 i j w' :=
  ⟨h.bel.trans (k.low.mono (by omega)), (k.low.block _ (by omega)).trans h.hL, (k.low.block _ (by omega)).trans h.hI, (k.low.block _ (by omega)).trans h.hJ, k.typ _ _ _ h.hF (by decide) (by omega)⟩
/-- The tops that are told of a part. -/
def walkW : Nat → List (List Int) → Nat → Nat → Int → Int → List (List Int)
  | 0, _, _, _, _, _ => []
  | f + 1, l, lo, hi, i, j =>
    if decide (i ≤ lo) && decide ((hi : Int) - 1 ≤ j) then [] else if decide (j < lo) || decide ((hi : Int) - 1 < i) then [rootW ((l.take hi).drop lo)]
    else walkW f l lo (lo + halfW (hi - lo)) i j ++ walkW f l (lo + halfW (hi - lo)) hi i j
theorem walkW_length : ∀ (f : Nat) (l : List (List Int)) (lo hi : Nat) (i j : Int), lo < hi → (walkW f l lo hi i j).length ≤ hi - lo
  | 0, _, _, _, _, _, _ => Nat.zero_le _
  | f + 1, l, lo, hi, i, j, h => by
    rw [walkW]
    split
    · exact Nat.zero_le _
    · split
      · simp only [List.length_cons, List.length_nil]; omega
      · rename_i h1 h2
        simp only [Bool.and_eq_true, decide_eq_true_eq, Bool.or_eq_true] at h1 h2
        have k1 := halfW_lt (hi - lo) (by omega)
        have k2 := halfW_pos (hi - lo)
        have := walkW_length f l lo (lo + halfW (hi - lo)) i j (by omega)
        have := walkW_length f l (lo + halfW (hi - lo)) hi i j (by omega)
        rw [List.length_append]
        omega
theorem pair_cells {w : World} {g : Nat} {t : TypeId} {a b : Value} (h : w.heap[g]? = some (.cells #[a, b] t (0, 0))) : w.cell? ⟨g, 0, none⟩ = some a ∧ w.cell? ⟨g, 1, none⟩ = some b := by
  constructor <;> simp [World.cell?, h]
theorem two_new (w : World) (A B : Obj) : ((w.alloc A).alloc B).heap[w.heap.size]? = some A ∧ ((w.alloc A).alloc B).heap[w.heap.size + 1]? = some B ∧ Below w.heap.size w ((w.alloc A).alloc B) ∧ ((w.alloc A).alloc B).heap.size = w.heap.size + 1 + 1 := by
  have e1 : (w.alloc A).heap.size = w.heap.size + 1 := by simp
  refine ⟨?_, ?_, ?_, by simp⟩
  · exact (heap_alloc_old (w.alloc A) B (show w.heap.size < _ by rw [e1]; exact Nat.lt_succ_self _)).trans (heap_alloc_new w A)
  · have := heap_alloc_new (w.alloc A) B
    rw [e1] at this
    exact this
  · exact (((Below.refl w.heap.size w).alloc (Nat.le_refl _) A).alloc (by rw [e1]; omega) B)
def merkle_walk.T6 : Bool × List (List Nat × List Nat) := (true, [([], []), ([], []), ([], []), ([2], [2]), ([], []), ([4], [4]), ([1, 3, 5], [1, 3, 5]), ([6], [6]), ([7], [7]), ([0, 8, 7], [0, 8]), ([9, 9, 0, 1, 2, 3, 4, 5, 6, 7, 8, 9], [9])])
def merkle_walk.B6 : List Nat := [0, 0, 0, 4, 0, 16, 62, 126, 254, 511, 1023]
theorem merkle_walk.tab6 : rtab .any (opsOf Tryd.f31 6) = merkle_walk.T6 := by kernel_rfl
theorem merkle_walk.bits6 : waitsOk merkle_walk.T6.2 merkle_walk.B6 = true := by kernel_rfl
set_option maxHeartbeats 2000000 in
set_option maxRecDepth 100000 in
theorem walk_any (A0 : Option Addr) (c0 : Nat) (l0 : List (List Int)) (i j : Int) (w0 : World) (hr0 : Kd.C (Kd.slice 5 (Kd.int .u8)) w0 A0 l0.length l0) (hc0 : l0.length ≤ c0) (hn : l0.length ≤ 1000) (hs : Small l0) (ht : TabAt w0) :
    ∀ (f lo hi : Nat) (ts : List (List Int)) (wr : World), hi - lo ≤ f → lo < hi → hi ≤ l0.length → Ctx w0 A0 c0 l0 i j wr → TopsS wr (w0.heap.size + 3) ts → ts.length + (hi - lo) ≤ 100000 →
    Calls Tryd.prog 31 #[partV lo hi, .pointer (some ⟨w0.heap.size + 1, 0, none⟩), .pointer (some ⟨w0.heap.size + 2, 0, none⟩), .pointer (some ⟨w0.heap.size + 3, 0, none⟩), .pointer (some ⟨w0.heap.size, 0, none⟩), .pointer (some ⟨w0.heap.size + 4, 0, none⟩)] wr fun e w' =>
      e = .returned (.tuple #[]) ∧ TopsS w' (w0.heap.size + 3) (ts ++ walkW f l0 lo hi i j) ∧ Keeps (w0.heap.size + 3) wr w' := by
  intro f
  induction f with
  | zero => intro lo hi ts wr h1 h2; omega
  | succ f ih =>
    intro lo hi ts wr hf hlo hhi hC hT hlen
    have HR := Aside0.mk hr0
    have HT := Aside0.mk ht
    have IH := Aside0.mk ih
    have hTS := Aside0.mk hT
    have hCX := Aside0.mk hC
    have hsz : w0.heap.size + 4 < wr.heap.size := (Array.getElem?_eq_some_iff.1 hC.hF).1
    have K1 := Aside0.mk (Keeps.of_below (B := w0.heap.size + 3) ((Below.refl wr.heap.size wr).alloc (Nat.le_refl _) (.cells #[.int .i64 lo, .int .i64 hi] 50)) (by omega) (Nat.le_refl _))
    have N1 := Aside0.mk (heap_alloc_new wr (.cells #[.int .i64 lo, .int .i64 hi] 50))
    have hcI := cell_of_one (hC.keep K1.out).hI
    have hcJ := cell_of_one (hC.keep K1.out).hJ
    have hz1 : (wr.alloc (.cells #[.int .i64 lo, .int .i64 hi] 50)).heap.size = wr.heap.size + 1 := by simp
    replace hz1 := Aside0.mk hz1
    clear hr0 ht ih hC hT
    go_enter Tryd.func31, Tryd.ntmps31
    go_wp2_with fail
    refine (within_any lo hi i j _ (by omega) (by omega) (by omega) (by omega)).mono ?_
    rintro e w2 ⟨rfl, L2⟩
    rw [hz1.out] at L2
    clear hcI hcJ
    have hw2 := L2.size
    have K2 := Aside0.mk (K1.out.trans (Keeps.of_below L2 (by omega) (by rw [hz1.out]; exact Nat.le_refl _)))
    have N2 := Aside0.mk ((L2.block wr.heap.size (by omega)).trans N1.out)
    have hz2 : wr.heap.size < w2.heap.size := (Array.getElem?_eq_some_iff.1 N2.out).1
    clear K1 N1 hz1 hw2
    obtain ⟨b, hb⟩ : ∃ b, b = (decide (i ≤ (lo : Int)) && decide ((hi : Int) - 1 ≤ j)) := ⟨_, rfl⟩
    rw [← hb]
    replace hb := Aside0.mk hb
    cases b with
    | true =>
      go_wp2
      go_end0
      refine ⟨rfl, ?_, K2.out⟩
      rw [walkW, if_pos hb.out.symm, List.append_nil]
      obtain ⟨v, hv, hS⟩ := hTS.out.out
      have hv2 := (L2.block (w0.heap.size + 3) (by omega)).trans (((heap_alloc_old wr _ (by omega))).trans hv)
      exact ⟨v, hv2, Kd.S_below (Kd.S_alloc hS _) (L2.mono (by simp))⟩
    | false =>
      have hcI := cell_of_one (hCX.out.keep K2.out).hI
      have hcJ := cell_of_one (hCX.out.keep K2.out).hJ
      obtain ⟨hp0, hp1⟩ := pair_cells N2.out
      go_wp2_with fail
      refine (apart_any lo hi i j _ (by omega) (by omega) (by omega) (by omega)).mono ?_
      rintro e w3 ⟨rfl, L3⟩
      clear hcI hcJ hp0 hp1
      have L23 := Aside0.mk ((((Below.refl wr.heap.size wr).alloc (Nat.le_refl _) (.cells #[.int .i64 lo, .int .i64 hi] 50)).trans (L2.mono (by omega))).trans (L3.mono (by omega)))
      have K3 := Aside0.mk (K2.out.trans (Keeps.of_below L3 (by omega) (Nat.le_refl _)))
      have N3 := Aside0.mk ((L3.block wr.heap.size hz2).trans N2.out)
      have hz3 := L3.size
      have C3 := Aside0.mk (hCX.out.keep K3.out)
      clear K2 N2 L2 L3
      obtain ⟨b2, hb2⟩ : ∃ b2, b2 = (decide (j < (lo : Int)) || decide ((hi : Int) - 1 < i)) := ⟨_, rfl⟩
      rw [← hb2]
      replace hb2 := Aside0.mk hb2
      cases b2 with
      | true =>
        obtain ⟨v, hv, hS⟩ := hTS.out.out
        obtain ⟨Av, cv, rfl⟩ := Kd.S_slice hS
        have cP := Aside0.mk (cell_of_one ((L23.out.block (w0.heap.size + 3) (by omega)).trans hv))
        have P3 := Aside0.mk ((L23.out.block (w0.heap.size + 3) (by omega)).trans hv)
        have S3 := Aside0.mk (Kd.S_below hS L23.out)
        have HR3 := Aside0.mk (Kd.C_below HR.out C3.out.bel)
        have HT3 := Aside0.mk (HT.out.below C3.out.bel (Nat.le_refl _))
        have cB := Aside0.mk (cell_of_one C3.out.hL)
        have c50 := Aside0.mk (pair_cells N3.out)
        obtain ⟨i0, hi0, _, hsz0, _⟩ := info_parts info31
        have hcut := cut_mid (P := Tryd.prog) 22 31 .i64 .i64 Tryd.underlying22 hi0 1 hsz0 A0 l0.length c0 (lo : Int) (hi : Int) (by omega) (by omega) (by omega) hc0
        rw [Int.toNat_natCast, Int.toNat_natCast] at hcut
        have hmid := Kd.C_mid (lo := lo) (hi := hi) (c := c0) HR3.out (by omega) (by omega) hc0
        rw [show lo * (Kd.slice 5 (Kd.int .u8)).sz = lo * 1 from rfl] at hmid
        obtain ⟨A1, hA1⟩ : ∃ A1, A1 = (if c0 = lo then A0 else A0.map (·.add (lo * 1))) := ⟨_, rfl⟩
        rw [← hA1] at hcut hmid
        have hxl : ((l0.take hi).drop lo).length = hi - lo := by rw [List.length_drop, List.length_take]; omega
        have hxs := Aside0.mk (show walkW (f + 1) l0 lo hi i j = [rootW ((l0.take hi).drop lo)] by rw [walkW, if_neg (by rw [← hb.out]; decide), if_pos hb2.out.symm])
        have hsm : Small ((l0.take hi).drop lo) := fun x hx => hs x (List.mem_of_mem_take (List.mem_of_mem_drop hx))
        obtain ⟨xs, hxe⟩ : ∃ xs, xs = (l0.take hi).drop lo := ⟨_, rfl⟩
        rw [← hxe] at hmid hxl hxs hsm
        rw [← hxl] at hcut
        have hcl : xs.length ≤ c0 - lo := by omega
        have M3 := Aside0.mk hmid
        have hxl2 : xs.length ≤ 1000 := by omega
        clear hxe hA1 hmid hv hS hi0 hsz0 HR3 hxl
        go_wp2
        refine start_ (n := 11) (S := fun w' => Aside0 (w'.cell? ⟨w0.heap.size + 3, 0, none⟩ = some (.slice Av ts.length cv)) ∧ Aside0 (w'.cell? ⟨w0.heap.size, 0, none⟩ = some (.slice A0 l0.length c0)) ∧ Aside0 (w'.cell? ⟨wr.heap.size, 0, none⟩ = some (.int .i64 lo) ∧ w'.cell? ⟨wr.heap.size, 1, none⟩ = some (.int .i64 hi))) (ds := [10]) #[false, false, false, false, false, false, false, false, false, false, false] (by kernel_rfl) rfl rfl ⟨⟨cP.out⟩, ⟨cB.out⟩, ⟨c50.out⟩⟩ (fun hHeld => ?_)
        refine with_tabW merkle_walk.tab6 merkle_walk.bits6 (fun HT_ HW_ => ?_)
        have L4 := Aside0.mk (below_drew1 L23.out)
        have M4 := Aside0.mk (Kd.C_drew M3.out)
        have T4 := Aside0.mk (show TabAt w3.drew from HT3.out.below (B := w3.heap.size) (below_drew (Below.refl _ _)) (Nat.le_refl _))
        have S4 := Aside0.mk (Kd.S_drew S3.out)
        have P4 := Aside0.mk (show w3.drew.heap[w0.heap.size + 3]? = _ from P3.out)
        have K4 := Aside0.mk (show Keeps (w0.heap.size + 3) wr w3.drew from K3.out.trans (Keeps.of_below (B := w0.heap.size + 3) (n := w3.heap.size) (below_drew (Below.refl _ _)) (by omega) (Nat.le_refl _)))
        have N4 := Aside0.mk (show w3.drew.heap[wr.heap.size]? = _ from N3.out)
        have hz4 : w0.heap.size + 4 < w3.drew.heap.size := by show _ < w3.heap.size; omega
        generalize w3.drew = w4 at L4 M4 T4 S4 P4 K4 N4 hz4 hHeld ⊢
        refine take_ (i := 0) (N := some 30) (v := ?_) (a' := ?_) #[true, false, false, false, false, false, false, false, false, false, false] rfl rfl (take_ofW HT_.out HW_.out (by kernel_rfl)) (fun _ _ _ h => h) (Or.inl ⟨by rfl, ?_⟩) hHeld ?_ ?_
        rotate_left
        · intro w' hS'
          have hc := hS'.1.out
          go_simp
          with_reducible rfl
        rotate_left
        · simp only [Act.put, List.setIfInBounds_toArray, List.set_cons_zero, List.set_cons_succ, i64_w, i32_w]
          rfl
        refine take_ (i := 1) (N := some 31) (v := ?_) (a' := ?_) #[true, true, false, false, false, false, false, false, false, false, false] rfl rfl (take_ofW HT_.out HW_.out (by kernel_rfl)) (fun _ _ _ h => h) (Or.inl ⟨by rfl, ?_⟩) hHeld ?_ ?_
        rotate_left
        · intro w' hS'
          have hc := hS'.2.1.out
          go_simp
          with_reducible rfl
        rotate_left
        · simp only [Act.put, List.setIfInBounds_toArray, List.set_cons_zero, List.set_cons_succ, i64_w, i32_w]
          rfl
        refine pure_ (i := 2) (N := some 32) (v := ?_) (a' := ?_) #[true, true, true, false, false, false, false, false, false, false, false] rfl rfl (any_of HT_.out (by kernel_rfl)) (fun _ _ _ h => h) (Or.inl ⟨by rfl, ?_⟩) ?_ ?_
        rotate_left
        · intro w'
          go_simp
          with_reducible rfl
        rotate_left
        · simp only [Act.put, List.setIfInBounds_toArray, List.set_cons_zero, List.set_cons_succ, i64_w, i32_w]
          rfl
        refine take_ (i := 3) (N := some 33) (v := ?_) (a' := ?_) #[true, true, true, true, false, false, false, false, false, false, false] rfl rfl (take_ofW HT_.out HW_.out (by kernel_rfl)) (fun _ _ _ h => h) (Or.inl ⟨by rfl, ?_⟩) hHeld ?_ ?_
        rotate_left
        · intro w' hS'
          have hc := hS'.2.2.out.1
          go_simp
          with_reducible rfl
        rotate_left
        · simp only [Act.put, List.setIfInBounds_toArray, List.set_cons_zero, List.set_cons_succ, i64_w, i32_w]
          rfl
        refine pure_ (i := 4) (N := some 34) (v := ?_) (a' := ?_) #[true, true, true, true, true, false, false, false, false, false, false] rfl rfl (any_of HT_.out (by kernel_rfl)) (fun _ _ _ h => h) (Or.inl ⟨by rfl, ?_⟩) ?_ ?_
        rotate_left
        · intro w'
          go_simp
          with_reducible rfl
        rotate_left
        · simp only [Act.put, List.setIfInBounds_toArray, List.set_cons_zero, List.set_cons_succ, i64_w, i32_w]
          rfl
        refine take_ (i := 5) (N := some 35) (v := ?_) (a' := ?_) #[true, true, true, true, true, true, false, false, false, false, false] rfl rfl (take_ofW HT_.out HW_.out (by kernel_rfl)) (fun _ _ _ h => h) (Or.inl ⟨by rfl, ?_⟩) hHeld ?_ ?_
        rotate_left
        · intro w' hS'
          have hc := hS'.2.2.out.2
          go_simp
          with_reducible rfl
        rotate_left
        · simp only [Act.put, List.setIfInBounds_toArray, List.set_cons_zero, List.set_cons_succ, i64_w, i32_w]
          rfl
        refine pure_ (i := 6) (N := some 36) (v := ?_) (a' := ?_) #[true, true, true, true, true, true, true, false, false, false, false] rfl rfl (any_of HT_.out (by kernel_rfl)) (fun _ _ _ h => h) (Or.inl ⟨by rfl, ?_⟩) ?_ ?_
        rotate_left
        · intro w'
          go_simp
          with_reducible rfl
        rotate_left
        · simp only [Act.put, List.setIfInBounds_toArray, List.set_cons_zero, List.set_cons_succ, i64_w, i32_w]
          rfl
        refine one_ (i := 7) (N := some 37) #[true, true, true, true, true, true, true, true, false, false, false] rfl rfl (one_of HT_.out (by kernel_rfl)) (by decide) (fun K hK => ?_)
        refine goes_ Tryd.func16 (by kernel_rfl) rfl #[.slice A1 xs.length (c0 - lo)] (by rfl) rfl rfl (by (try simp only [List.map_toArray, List.map_cons, List.map_nil]); first | done | rfl) ?_
        with_reducible refine (root_any A1 (c0 - lo) xs w4 M4.out hcl hxl2 hsm T4.out).mono ?_
        rintro e w5 ⟨v1, rfl, O5, l5⟩
        refine ⟨_, rfl, ?_⟩
        have L5 := Aside0.mk (L4.out.trans (l5.mono (by have := L4.out.size; omega)))
        have K5 := Aside0.mk (K4.out.trans (Keeps.of_below l5 (by omega) (Nat.le_refl _)))
        have S5 := Aside0.mk (show Kd.S (Kd.slice 5 (Kd.int .u8)) 31 w5 (w0.heap.size + 3 + 1) (fun k => True ∧ ¬ (w4.heap.size ≤ k)) (.slice Av ts.length cv) ts from Kd.S_below (Kd.S_mono (Kd.S_bound S4.out) (fun k hk => ⟨trivial, by have := hk.2.2.1; omega⟩)) l5)
        have P5 := Aside0.mk ((l5.block _ (by omega)).trans P4.out)
        have N5 := Aside0.mk ((l5.block _ (Array.getElem?_eq_some_iff.1 N4.out).1).trans N4.out)
        have hz5 : w0.heap.size + 4 < w5.heap.size := Nat.lt_of_lt_of_le hz4 l5.size
        have hvl : ∀ k, (Value.slice Av ts.length cv).ownBlock = some k → k < w4.heap.size := Kd.S_lt S4.out
        have M5 := Aside0.mk (show Kd.R (Kd.int .u8) 5 w5 (w0.heap.size + 3 + 1) (fun k => w4.heap.size ≤ k) v1 (rootW xs) from Kd.R_lower (Kd.R_mono (Kd.R_bound O5) (fun k hk => hk.2.1)) (by omega))
        obtain ⟨A5, c5, rfl⟩ := Kd.R_slice O5
        replace hvl := Aside0.mk hvl
        have hok5 := Aside0.mk (show ∀ k, w4.heap.size ≤ k → True ∧ some k ≠ (Value.slice Av ts.length cv).ownBlock from fun k hk => ⟨trivial, fun he => by have := hvl.out k he.symm; omega⟩)
        refine hK.out _ _ ⟨⟨(l5.cell (World.block_lt_of_cell? _ _ hHeld.1.out)).trans hHeld.1.out⟩, ⟨(l5.cell (World.block_lt_of_cell? _ _ hHeld.2.1.out)).trans hHeld.2.1.out⟩, ⟨(l5.cell (World.block_lt_of_cell? _ _ hHeld.2.2.out.1)).trans hHeld.2.2.out.1, (l5.cell (World.block_lt_of_cell? _ _ hHeld.2.2.out.2)).trans hHeld.2.2.out.2⟩⟩ (fun hHeld => ?_)
        clear hK K l5 O5
        refine norm_ (a' := ?_) ?_ ?_
        rotate_left
        · show Act.put _ (some 37) _ = _
          simp only [Act.put, List.setIfInBounds_toArray, List.set_cons_zero, List.set_cons_succ, i64_w, i32_w]
          rfl
        refine one_ (i := 8) (N := some 38) #[true, true, true, true, true, true, true, true, true, false, false] rfl rfl (one_of HT_.out (by kernel_rfl)) (by decide) (fun K hK => ?_)
        refine value_ (v := .slice (some ⟨w5.heap.size, 0, none⟩) 1 1) (w1 := w5.alloc (.cells #[.slice A5 (rootW xs).length c5] 31)) (by rfl) rfl (by go_simp) ?_
        refine hK.out _ _ ⟨⟨((Below.refl w5.heap.size w5).alloc (Nat.le_refl _) _).cell (World.block_lt_of_cell? _ _ hHeld.1.out) |>.trans hHeld.1.out⟩, ⟨((Below.refl w5.heap.size w5).alloc (Nat.le_refl _) _).cell (World.block_lt_of_cell? _ _ hHeld.2.1.out) |>.trans hHeld.2.1.out⟩, ⟨((Below.refl w5.heap.size w5).alloc (Nat.le_refl _) _).cell (World.block_lt_of_cell? _ _ hHeld.2.2.out.1) |>.trans hHeld.2.2.out.1, ((Below.refl w5.heap.size w5).alloc (Nat.le_refl _) _).cell (World.block_lt_of_cell? _ _ hHeld.2.2.out.2) |>.trans hHeld.2.2.out.2⟩⟩ (fun hHeld => ?_)
        clear hK K
        refine norm_ (a' := ?_) ?_ ?_
        rotate_left
        · show Act.put _ (some 38) _ = _
          simp only [Act.put, List.setIfInBounds_toArray, List.set_cons_zero, List.set_cons_succ, i64_w, i32_w]
          rfl
        refine one_ (i := 9) (N := some 39) #[true, true, true, true, true, true, true, true, true, true, false] rfl rfl (one_of HT_.out (by kernel_rfl)) (by decide) (fun K hK => ?_)
        refine Kd.S_append_step (Kd.slice 5 (Kd.int .u8)) (w0 := w5) (W := w5) (w0.heap.size + 3 + 1) (by rfl) _ _ 22 31 (.slice none 0 0) 24 rfl Tryd.underlying22 info31 rfl (by decide) (by decide) (.slice Av ts.length cv) ts (rootW xs) [.slice A5 (rootW xs).length c5] (fun _ => True) (fun k => w4.heap.size ≤ k) rfl rfl ⟨_, rfl, M5.out⟩ hok5.out (fun _ _ => trivial) S5.out (Below.refl _ _) (by omega) (by omega) ?_
        intro v6 w6 h1 h2 h3 h4
        obtain ⟨A6, c6, rfl⟩ := Kd.S_slice h1
        have K6 := Aside0.mk (K5.out.grown S5.out (Nat.le_succ _) h2 h3)
        have H6 := Aside0.mk h1
        have P6 := Aside0.mk ((h2.block _ (by omega)).trans P5.out)
        refine hK.out _ _ ⟨⟨cell_of_one P6.out⟩, ⟨cell_of_one ((hCX.out.keep K6.out).hL)⟩, ⟨pair_cells (((Keeps.refl (w0.heap.size + 3) w5).grown S5.out (Nat.le_succ _) h2 h3).typ _ _ _ N5.out (by decide) (by omega))⟩⟩ (fun hHeld => ?_)
        clear hK K h1 h2 h3 h4 hHeld
        refine norm_ (a' := ?_) ?_ ?_
        rotate_left
        · show Act.put _ (some 39) _ = _
          simp only [Act.put, List.setIfInBounds_toArray, List.set_cons_zero, List.set_cons_succ, i64_w, i32_w]
          rfl
        refine last_ (i := 10) (N := none) #[true, true, true, true, true, true, true, true, true, true, true] rfl rfl (one_of HT_.out (by kernel_rfl)) (by decide) (fun K hK => ?_)
        have hp6 := cell_of_one P6.out
        have hf6 := free_of_one P6.out
        refine skip_ (w1 := w6.setCell ⟨w0.heap.size + 3, 0, none⟩ (.slice A6 (ts ++ [rootW xs]).length c6)) (by rfl) rfl (by first | (go_simp; done) | (go_simp; rfl)) ?_
        refine hK.out _ _ ?_
        clear hK K hp6 hf6
        refine done_ (done_of HT_.out (by kernel_rfl)) ?_
        go_wp2
        go_end0
        rw [hxs.out]
        refine ⟨rfl, ⟨_, one_setCell P6.out, Kd.S_mono (Kd.S_far (p := ⟨w0.heap.size + 3, 0, none⟩) (Kd.S_bound H6.out) (fun k hk => by have := hk.2.1; show k ≠ w0.heap.size + 3; omega) _) (fun _ _ => trivial)⟩, K6.out.set _⟩
      | false =>
        obtain ⟨hp0, hp1⟩ := pair_cells N3.out
        have h2 : lo + 2 ≤ hi := by
          have h3 := hb.out.symm
          have h4 := hb2.out.symm
          rw [Bool.and_eq_false_iff, decide_eq_false_iff_not, decide_eq_false_iff_not] at h3
          rw [Bool.or_eq_false_iff, decide_eq_false_iff_not, decide_eq_false_iff_not] at h4
          omega
        have hk1 := halfW_lt (hi - lo) (by omega)
        have hk2 := halfW_pos (hi - lo)
        have hxs := Aside0.mk (show walkW (f + 1) l0 lo hi i j = walkW f l0 lo (lo + halfW (hi - lo)) i j ++ walkW f l0 (lo + halfW (hi - lo)) hi i j by rw [walkW, if_neg (by rw [← hb.out]; decide), if_neg (by rw [← hb2.out]; decide)])
        have hsp := Aside0.mk (split_any lo hi w3 h2 (by omega))
        obtain ⟨m, hm⟩ : ∃ m, m = lo + halfW (hi - lo) := ⟨_, rfl⟩
        rw [← hm] at hxs hsp
        have hm1 : lo < m := by omega
        have hm2 : m < hi := by omega
        clear hm hk1 hk2
        go_wp2_with fail
        refine hsp.out.mono ?_
        rintro e w4 ⟨rfl, L4⟩
        clear hp0 hp1
        obtain ⟨nA, nB, L5, hz5⟩ := two_new w4 (.cells #[.int .i64 lo, .int .i64 m] 50) (.cells #[.int .i64 m, .int .i64 hi] 50)
        have L35 := Aside0.mk (L23.out.trans ((L4.mono (Nat.le_trans (Nat.le_of_lt hz2) hz3)).trans (L5.mono (Nat.le_trans (Nat.le_trans (Nat.le_of_lt hz2) hz3) L4.size))))
        have K5 := Aside0.mk (K3.out.trans ((Keeps.of_below L4 (by omega) (Nat.le_refl _)).trans (Keeps.of_below (B := w0.heap.size + 3) L5 (by have := L4.size; omega) (Nat.le_refl _))))
        have hcF := cell_of_one (hCX.out.keep K5.out).hF
        unfold walkV at hcF
        obtain ⟨hp0, hp1⟩ := pair_cells nA
        have NB := Aside0.mk nB
        have hz6 : w4.heap.size ≠ w0.heap.size + 3 := by have := L4.size; omega
        have hz7 : w4.heap.size + 1 ≠ w0.heap.size + 3 := by have := L4.size; omega
        clear nA nB L5 L4
        clear hp0 hp1
        have T5 := Aside0.mk (show TopsS ((w4.alloc (.cells #[.int .i64 lo, .int .i64 m] 50)).alloc (.cells #[.int .i64 m, .int .i64 hi] 50)) (w0.heap.size + 3) ts from by
          obtain ⟨v, hv, hS⟩ := hTS.out.out
          exact ⟨v, (L35.out.block _ (by omega)).trans hv, Kd.S_below hS L35.out⟩)
        have C5 := Aside0.mk (hCX.out.keep K5.out)
        clear hz5
        go_wp2_with fail
        refine (IH.out lo m ts _ (by omega) hm1 (by omega) C5.out T5.out (by omega)).mono ?_
        rintro e w6 ⟨rfl, T6, K6⟩
        have N6 := K6.typ _ _ _ NB.out (by decide) hz7
        have C6 := Aside0.mk (C5.out.keep K6)
        replace K6 := Aside0.mk (K5.out.trans K6)
        replace T6 := Aside0.mk T6
        obtain ⟨hp0, hp1⟩ := pair_cells N6
        clear hcF
        have hcF := cell_of_one C6.out.hF
        unfold walkV at hcF
        clear T5 C5 K5 L35 NB N6
        have hwl := walkW_length f l0 lo m i j hm1
        have hlen6 : (ts ++ walkW f l0 lo m i j).length + (hi - m) ≤ 100000 := by rw [List.length_append]; omega
        replace hlen6 := Aside0.mk hlen6
        go_wp2_with fail
        refine (IH.out m hi _ _ (by omega) hm2 (by omega) C6.out T6.out hlen6.out).mono ?_
        rintro e w7 ⟨rfl, T7, K7⟩
        go_wp2
        go_end0
        rw [hxs.out, ← List.append_assoc]
        exact ⟨rfl, T7, K6.out.trans K7⟩
theorem five_new (w : World) (A B C D E : Obj) : (((((w.alloc A).alloc B).alloc C).alloc D).alloc E).heap[w.heap.size]? = some A ∧ (((((w.alloc A).alloc B).alloc C).alloc D).alloc E).heap[w.heap.size + 1]? = some B ∧ (((((w.alloc A).alloc B).alloc C).alloc D).alloc E).heap[w.heap.size + 2]? = some C ∧ (((((w.alloc A).alloc B).alloc C).alloc D).alloc E).heap[w.heap.size + 3]? = some D ∧ (((((w.alloc A).alloc B).alloc C).alloc D).alloc E).heap[w.heap.size + 4]? = some E ∧ Below w.heap.size w (((((w.alloc A).alloc B).alloc C).alloc D).alloc E) := by
  have e : ∀ (w : World) (A : Obj), (w.alloc A).heap = w.heap.push A := fun _ _ => rfl
  have g : ∀ (a : Array Obj) (x : Obj) (k : Nat), (a.push x)[k]? = if k = a.size then some x else a[k]? := fun _ _ _ => Array.getElem?_push
  refine ⟨?_, ?_, ?_, ?_, ?_, ?_⟩
  · simp only [e, g, Array.size_push]
    repeat (first | rw [if_pos trivial] | rw [if_neg (by omega)] | rw [if_pos (by omega)])
  · simp only [e, g, Array.size_push]
    repeat (first | rw [if_pos trivial] | rw [if_neg (by omega)] | rw [if_pos (by omega)])
  · simp only [e, g, Array.size_push]
    repeat (first | rw [if_pos trivial] | rw [if_neg (by omega)] | rw [if_pos (by omega)])
  · simp only [e, g, Array.size_push]
    repeat (first | rw [if_pos trivial] | rw [if_neg (by omega)] | rw [if_pos (by omega)])
  · simp only [e, g, Array.size_push]
    repeat (first | rw [if_pos trivial] | rw [if_neg (by omega)] | rw [if_pos (by omega)])
  · exact (((((Below.refl w.heap.size w).alloc (Nat.le_refl _) A).alloc (by simp) B).alloc (by simp; omega) C).alloc (by simp; omega) D).alloc (by simp; omega) E
theorem TopsS.new (w : World) (P : Nat) (h : w.heap[P]? = some (.cells #[.slice none 0 0] 22 (0, 0))) : TopsS w P [] := ⟨⟨_, h, Kd.S_nil _ _ _ _ _⟩⟩
/-- The proof as the program makes it. -/
def proveW (l : List (List Int)) (i j : Int) : List (List Int) × Int := if i < 0 ∨ j < i ∨ (l.length : Int) ≤ j then ([], 1) else (walkW l.length l 0 l.length i j, 0)
set_option maxHeartbeats 2000000 in
set_option maxRecDepth 100000 in
theorem prove_any (A0 : Option Addr) (c0 : Nat) (l0 : List (List Int)) (i j : Int) (w : World) (hr0 : Kd.C (Kd.slice 5 (Kd.int .u8)) w A0 l0.length l0) (hc0 : l0.length ≤ c0) (hn : l0.length ≤ 1000) (hs : Small l0) (ht : TabAt w) :
    Calls Tryd.prog 12 #[.slice A0 l0.length c0, .int .i64 i, .int .i64 j] w fun e w' => ∃ v, e = .returned (.tuple #[v, .int .i64 (proveW l0 i j).2]) ∧ Kd.S (Kd.slice 5 (Kd.int .u8)) 31 w' w.heap.size (fun _ => True) v (proveW l0 i j).1 ∧ Below w.heap.size w w' := by
  have hmf : ∀ (fn : Fn) (first cap : Array Value) (w : World), (Instr.makeFunc fn first cap).run Tryd.prog w = .ok (.func fn first cap) w := fun _ _ _ _ => rfl
  have HR := Aside0.mk hr0
  have HT := Aside0.mk ht
  clear hr0 ht
  have L3 := Aside0.mk ((((Below.refl w.heap.size w).alloc (Nat.le_refl _) (.cells #[.slice A0 l0.length c0] 22)).alloc (by simp) (.cells #[.int .i64 i] 3)).alloc (by simp; omega) (.cells #[.int .i64 j] 3))
  by_cases c1 : i < 0
  · have c1b : decide (i < 0) = true := decide_eq_true c1
    have hp := Aside0.mk (show proveW l0 i j = ([], 1) from if_pos (Or.inl c1))
    clear c1
    go_enter Tryd.func12, Tryd.ntmps12
    go_wp2
    go_ret2
    rw [hp.out]
    exact ⟨_, rfl, Kd.S_nil _ _ _ _ _, L3.out⟩
  · have c1b : decide (i < 0) = false := decide_eq_false c1
    by_cases c2 : j < i
    · have c2b : decide (j < i) = true := decide_eq_true c2
      have hp := Aside0.mk (show proveW l0 i j = ([], 1) from if_pos (Or.inr (Or.inl c2)))
      clear c1 c2
      go_enter Tryd.func12, Tryd.ntmps12
      go_wp2
      go_ret2
      rw [hp.out]
      exact ⟨_, rfl, Kd.S_nil _ _ _ _ _, L3.out⟩
    · have c2b : decide (j < i) = false := decide_eq_false c2
      by_cases c3 : (l0.length : Int) ≤ j
      · have c3b : decide ((l0.length : Int) ≤ j) = true := decide_eq_true c3
        have hp := Aside0.mk (show proveW l0 i j = ([], 1) from if_pos (Or.inr (Or.inr c3)))
        clear c1 c2 c3
        go_enter Tryd.func12, Tryd.ntmps12
        go_wp2
        go_ret2
        rw [hp.out]
        exact ⟨_, rfl, Kd.S_nil _ _ _ _ _, L3.out⟩
      · have c3b : decide ((l0.length : Int) ≤ j) = false := decide_eq_false c3
        have hp := Aside0.mk (show proveW l0 i j = (walkW l0.length l0 0 l0.length i j, 0) from if_neg (by omega))
        have hpos : 0 < l0.length := by omega
        clear c1 c2 c3
        go_enter Tryd.func12, Tryd.ntmps12
        go_wp2_with fail
        obtain ⟨n0, n1, n2, n3, n4, L5⟩ := five_new w (.cells #[.slice A0 l0.length c0] 22) (.cells #[.int .i64 i] 3) (.cells #[.int .i64 j] 3) (.cells #[.slice none 0 0] 22) (.cells #[walkV w.heap.size] 48)
        refine (walk_any A0 c0 l0 i j w HR.out hc0 hn hs HT.out l0.length 0 l0.length [] _ (by omega) hpos (Nat.le_refl _) ⟨L5, n0, n1, n2, n4⟩ (TopsS.new _ _ n3) (by simp; omega)).mono ?_
        rintro e w6 ⟨rfl, T6, K6⟩
        have L6 := Aside0.mk (L5.trans (K6.low.mono (by omega)))
        clear n0 n1 n2 n3 n4 L5 K6 L3
        obtain ⟨v, hv, hS⟩ := T6.out
        have hc := cell_of_one hv
        replace hS := Aside0.mk hS
        clear T6 hv
        go_wp2
        go_ret2
        rw [hp.out]
        exact ⟨_, rfl, Kd.S_lower hS.out (by omega), L6.out⟩
end Go.Proofs.YtgdogjnjbinoiaaDoor.Q
