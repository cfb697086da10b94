import Derived.Test.YtkennblgbfhjiaaGreatDoorB9
import Derived.Lib.SmallJoins
namespace Go.Proofs.YtkennblgbfhjiaaGreatDoor.Q
open Go.RowKit Go.Proofs.YtkennblgbfhjiaaGreatDoorW.PrintWords Go.Proofs.YtkennblgbfhjiaaGreatDoorW.PrintLast Go.Proofs.YtkennblgbfhjiaaGreatDoorW.PrintMore Go.Proofs.YtkennblgbfhjiaaGreatDoor.H
set_option linter.unusedVariables false
set_option linter.unusedSimpArgs false
def hmac_all1.T5 : Bool × List (List Nat × List Nat) := (true, [([], []), ([], []), ([], []), ([1, 2], [1, 2]), ([3], [3]), ([0, 4, 3], [0, 4]), ([5, 5, 0, 1, 2, 3, 4, 5], [5])])
def hmac_all1.B5 : List Nat := [0, 0, 0, 6, 14, 31, 63]
theorem hmac_all1.tab5 : rtab .any (opsOf Tryz.f136 5) = hmac_all1.T5 := by kernel_rfl
theorem hmac_all1.bits5 : waitsOk hmac_all1.T5.2 hmac_all1.B5 = true := by kernel_rfl
def hmac_all2.T5 : Bool × List (List Nat × List Nat) := (true, [([], []), ([], []), ([], []), ([1, 2], [1, 2]), ([3], [3]), ([0, 4, 3], [0, 4]), ([5, 5, 0, 1, 2, 3, 4, 5], [5])])
def hmac_all2.B5 : List Nat := [0, 0, 0, 6, 14, 31, 63]
theorem hmac_all2.tab5 : rtab .any (opsOf Tryz.f136 5) = hmac_all2.T5 := by kernel_rfl
theorem hmac_all2.bits5 : waitsOk hmac_all2.T5.2 hmac_all2.B5 = true := by kernel_rfl
theorem nums_len (k : IntKind) (l : List Int) : (nums k l).length = l.length := by simp [nums]
theorem keyW_length (k : List Int) (h : k.length ≤ 64) : (keyW k).length = 64 := by simp [keyW]; omega
theorem key_splice (k : List Int) (h : k.length ≤ 64) : splice (nums .u8 (List.replicate 64 0)) 0 (nums .u8 k) = nums .u8 (keyW k) := by
  rw [nums_splice]
  unfold splice keyW
  rw [List.take_zero, List.nil_append, Nat.zero_add, List.drop_replicate]
theorem summedW_length (K : List Int) (x : Int) (bs : List (List Int)) : (summedW K x bs).length = 32 := shaW_length _
theorem cell_alloc_mark_at2 (w : World) (C : Array Value) (t : TypeId) (fr : Nat × Nat) (j : Nat) : (w.alloc (.cells C t fr)).cell? ⟨w.heap.size, j, none⟩ = C[j]? := World.cell?_alloc_mark w C t fr j
theorem C_cells {k : IntKind} {A : Option Addr} {n : Nat} {l : List Int} {w : World} (h : Kd.C (Kd.int k) w A n l) (hp : 0 < l.length) : ∃ ad, A = some ad ∧ ∀ j v, (nums k l)[j]? = some v → w.cell? (ad.add j) = some v := by
  have hr := Kd.reads_of_C (enc := Value.int k) (d := (0 : Int)) (h1 := fun _ => rfl) h
  have hln : l.length = n := hr.1
  obtain ⟨ad, e, hc⟩ := hr.2.2 (by omega)
  refine ⟨ad, e, fun j v hv => ?_⟩
  have hj : j < l.length := by have := (List.getElem?_eq_some_iff.1 hv).1; rwa [nums_len] at this
  rw [hc j (by omega), ← hv, nums_getElem?]
  simp [List.getD_eq_getElem?_getD, hj]
theorem Lists.below {w w' : World} {B g : Nat} {bs : List (List Int)} (h : Lists w g bs) (hb : Below B w w') (hg : g < B) (hB : B = w.heap.size) : Lists w' g bs := ⟨fun j hj => by
  subst hB
  obtain ⟨A, c, h1, h2, h3⟩ := h.at_ j hj
  exact ⟨A, c, (cell_block (hb.block g hg) j).trans h1, Kd.C_below h2 hb, h3⟩⟩
set_option maxHeartbeats 1000000 in
set_option maxRecDepth 100000 in
theorem all_any (A : Option Addr) (c : Nat) (key : List Int) (gl n cl : Nat) (bs : List (List Int)) (w : World) (hr : Kd.C (Kd.int .u8) w A key.length key) (hc : key.length ≤ c) (hk : key.length ≤ 549755813888) (hl : Lists w gl bs) (hgl : gl < w.heap.size) (hn : bs.length = n) (hm : bs.flatten.length ≤ 274877906944) (hm2 : n ≤ 1000000) :
    Calls Tryz.prog 136 #[.slice A key.length c, .slice (some ⟨gl, 0, none⟩) n cl] w fun e w' => ∃ v, e = .returned v ∧ Own w' w.heap.size 5 .u8 v (macW key bs) ∧ Below w.heap.size w w' := by
  have HR := Aside0.mk hr
  have HL := Aside0.mk hl
  clear hr hl
  have Z0 := Aside0.mk (show Bk (w.alloc (.cells (nums .u8 (List.replicate 64 0)).toArray 188)) w.heap.size 188 (nums .u8 (List.replicate 64 0)) from Bk.at0 w _ _ _ rfl)
  have L0 := Aside0.mk ((Below.refl w.heap.size w).alloc (Nat.le_refl _) (.cells (nums .u8 (List.replicate 64 0)).toArray 188))
  go_enter Tryz.func136, Tryz.ntmps136
  by_cases hlong : 64 < key.length
  · have q0 : ((64 : Int) < (key.length : Int)) = True := eq_true (by omega)
    go_wp2_with fail
    refine (sum_any A c key _ (Kd.C_below HR.out L0.out) hc hk).mono ?_
    rintro e w1 ⟨v, rfl, O1, l1⟩
    have L1 := Aside0.mk (below_then L0.out (by simp) l1)
    have Z1 := Aside0.mk (Z0.out.below l1)
    have e32 := shaW_length key
    obtain ⟨g0, c0, rfl, _, hc0, hr0⟩ := O1.readsC (by rw [e32]; decide) (by rw [e32]; decide)
    have hs : shortW key = shaW key := if_pos hlong
    clear O1 l1 L0 Z0
    generalize shaW key = k1 at e32 hc0 hr0 hs ⊢
    have hk64 : k1.length ≤ 64 := by omega
    replace e32 := Aside0.mk e32
    have CX := Aside0.mk hr0
    clear hr0

    have hall := slice_all0 w1 w.heap.size
    go_wp2_with ((refine wpList_copy_splice rfl _ _ 25 25 rfl 5 Tryz.underlying25 (by kernel_rfl) (some ⟨w.heap.size, 0, none⟩) (some ⟨g0, 0, none⟩) 64 64 k1.length c0 rfl rfl w.heap.size 0 (nums .u8 (List.replicate 64 0)) 188 Z1.out.out (nums .u8 k1) (by rw [nums_len]; unfold Nat.min; omega) (fun hp => ⟨rfl, C_cells CX.out (by rw [nums_len] at hp; exact hp)⟩) (by rw [nums_len, nums_len, List.length_replicate]; omega) oneCell_nums w.heap.size w L1.out (Nat.le_refl _) ?_; intro w2 B2 L2))
    have B3 := Aside0.mk (show Bk w2 w.heap.size 188 (nums .u8 (keyW k1)) from ⟨by rw [← key_splice k1 (by omega)]; exact B2.out⟩)
    have hz2 : w.heap.size < w2.heap.size := B3.out.lt
    replace L2 := Aside0.mk L2
    clear B2 CX Z1 L1 hall
    have hKb := keyW_length k1 (by omega)
    obtain ⟨Kb, hKe⟩ : ∃ Kb, Kb = keyW k1 := ⟨_, rfl⟩
    rw [← hKe] at B3 hKb
    replace hKe := Aside0.mk hKe
    replace hKb := Aside0.mk hKb
    refine start_ (n := 7) (S := fun w' => Aside0 (Bk w' w.heap.size 188 (nums .u8 Kb))) (ds := []) #[false, false, false, false, false, false, false] (by kernel_rfl) rfl rfl ⟨B3.out.drew⟩ (fun hHeld => ?_)
    refine with_tabW hmac_all2.tab5 hmac_all2.bits5 (fun HT_ HW_ => ?_)
    have L3 := Aside0.mk (show Below w.heap.size w w2.drew from L2.out.drew)
    have hz3 : w.heap.size < w2.drew.heap.size := hz2
    generalize w2.drew = w3 at L3 hz3 hHeld ⊢
    refine take_ (i := 0) (N := some 14) (v := ?_) (a' := ?_) #[true, false, false, false, false, false, false] rfl rfl (take_ofW HT_.out HW_.out (by kernel_rfl)) (fun _ _ _ h => h) (Or.inl ⟨by rfl, ?_⟩) hHeld ?_ ?_
    rotate_left
    · intro w' hS'
      refine exec_load_mid (ty := 188) (x := .tmp 5) (cs := nums .u8 Kb) (off := 0) ?_ ?_ hS'.out (nums .u8 Kb) (fun i hi => by rw [Nat.zero_add]) (.array 64 5) (by kernel_rfl) rfl ((show _ = some 64 by kernel_rfl).trans (by rw [nums_len, hKb.out]))
      · rfl
      · rfl
    rotate_left
    · simp only [Act.put, List.setIfInBounds_toArray, List.set_cons_zero, List.set_cons_succ, i64_w, i32_w]
      rfl
    refine take_ (i := 1) (N := some 15) (v := ?_) (a' := ?_) #[true, true, false, false, false, false, false] rfl rfl (take_ofW HT_.out HW_.out (by kernel_rfl)) (fun _ _ _ h => h) (Or.inl ⟨by rfl, ?_⟩) hHeld ?_ ?_
    rotate_left
    · intro w' hS'
      refine exec_load_mid (ty := 188) (x := .tmp 5) (cs := nums .u8 Kb) (off := 0) ?_ ?_ hS'.out (nums .u8 Kb) (fun i hi => by rw [Nat.zero_add]) (.array 64 5) (by kernel_rfl) rfl ((show _ = some 64 by kernel_rfl).trans (by rw [nums_len, hKb.out]))
      · rfl
      · rfl
    rotate_left
    · simp only [Act.put, List.setIfInBounds_toArray, List.set_cons_zero, List.set_cons_succ, i64_w, i32_w]
      rfl
    refine pure_ (i := 2) (N := some 16) (v := ?_) (a' := ?_) #[true, true, true, false, false, false, false] rfl rfl (any_of HT_.out (by kernel_rfl)) (fun _ _ _ h => h) (Or.inl ⟨by rfl, ?_⟩) ?_ ?_
    rotate_left
    · intro w'
      go_simp
      with_reducible rfl
    rotate_left
    · simp only [Act.put, List.setIfInBounds_toArray, List.set_cons_zero, List.set_cons_succ, i64_w, i32_w]
      rfl
    refine one_ (i := 3) (N := some 17) #[true, true, true, true, false, false, false] rfl rfl (one_of HT_.out (by kernel_rfl)) (by decide) (fun K hK => ?_)
    refine goes_ Tryz.func188 (by kernel_rfl) rfl #[.agg (nums .u8 Kb).toArray, .int .u8 54, .slice (some ⟨gl, 0, none⟩) n cl] (by rfl) rfl rfl (by (try simp only [List.map_toArray, List.map_cons, List.map_nil]); first | done | rfl) ?_
    with_reducible refine (summed_any Kb 54 gl n cl bs w3 hKb.out (HL.out.below L3.out hgl rfl) (Nat.lt_of_lt_of_le hgl L3.out.size) hn hm hm2).mono ?_
    rintro e w' ⟨v1, rfl, O1, l4⟩
    refine ⟨_, rfl, ?_⟩
    have n1_ := Aside0.mk (below_then L3.out L3.out.size l4)
    have hz4 : w.heap.size < w'.heap.size := Nat.lt_of_lt_of_le hz3 l4.size
    replace O1 := Aside0.mk (O1.lower L3.out.size)
    refine hK.out _ _ ⟨hHeld.out.below l4⟩ (fun hHeld => ?_)
    clear L3 hK K l4
    have L4 := n1_
    clear n1_
    have e32 := summedW_length Kb 54 bs
    obtain ⟨g1, c1, rfl, hb1, hc1, hr1⟩ := O1.out.readsC (by rw [e32]; decide) (by rw [e32]; decide)
    clear O1
    generalize hI : summedW Kb 54 bs = I at e32 hc1 hr1 ⊢
    replace hI := Aside0.mk hI
    replace hr1 := Aside0.mk hr1
    generalize w' = w4 at hHeld L4 hz4 hr1 ⊢
    refine norm_ (a' := ?_) ?_ ?_
    rotate_left
    · show Act.put _ (some 17) _ = _
      simp only [Act.put, List.setIfInBounds_toArray, List.set_cons_zero, List.set_cons_succ, i64_w, i32_w]
      rfl
    refine one_ (i := 4) (N := some 18) #[true, true, true, true, true, false, false] rfl rfl (one_of HT_.out (by kernel_rfl)) (by decide) (fun K hK => ?_)
    refine value_ (v := .slice (some ⟨w4.heap.size, 0, none⟩) 1 1) (w1 := w4.alloc (.cells #[.slice (some ⟨g1, 0, none⟩) I.length c1] 25)) (by rfl) rfl (by go_simp) ?_
    have n1_ := Aside0.mk (L4.out.alloc L4.out.size (.cells #[.slice (some ⟨g1, 0, none⟩) I.length c1] 25))
    have n2_ : Aside0 (Lists (w4.alloc (.cells #[.slice (some ⟨g1, 0, none⟩) I.length c1] 25)) w4.heap.size [I]) := ⟨⟨fun j hj => by
      obtain rfl : j = 0 := by simpa using hj
      exact ⟨some ⟨g1, 0, none⟩, c1, cell_alloc_mark_at2 w4 _ _ (0, 0) 0, Kd.C_below hr1.out ((Below.refl _ _).alloc (Nat.le_refl _) _), hc1⟩⟩⟩
    have hz5 : w4.heap.size < (w4.alloc (.cells #[.slice (some ⟨g1, 0, none⟩) I.length c1] 25)).heap.size := by simp
    refine hK.out _ _ ⟨hHeld.out.alloc _⟩ (fun hHeld => ?_)
    clear hr1 L4 hK K
    have L5 := n1_
    have HI := n2_
    clear n1_ n2_
    generalize w4.alloc (.cells #[.slice (some ⟨g1, 0, none⟩) I.length c1] 25) = w5 at hHeld L5 HI hz5 ⊢
    refine norm_ (a' := ?_) ?_ ?_
    rotate_left
    · show Act.put _ (some 18) _ = _
      simp only [Act.put, List.setIfInBounds_toArray, List.set_cons_zero, List.set_cons_succ, i64_w, i32_w]
      rfl
    refine one_ (i := 5) (N := some 19) #[true, true, true, true, true, true, false] rfl rfl (one_of HT_.out (by kernel_rfl)) (by decide) (fun K hK => ?_)
    refine goes_ Tryz.func188 (by kernel_rfl) rfl #[.agg (nums .u8 Kb).toArray, .int .u8 92, .slice (some ⟨w4.heap.size, 0, none⟩) 1 1] (by rfl) rfl rfl (by (try simp only [List.map_toArray, List.map_cons, List.map_nil]); first | done | rfl) ?_
    with_reducible refine (summed_any Kb 92 w4.heap.size 1 1 [I] w5 hKb.out HI.out hz5 rfl (by simp; omega) (by decide)).mono ?_
    rintro e w' ⟨v2, rfl, O2, l6⟩
    refine ⟨_, rfl, ?_⟩
    have L6 := Aside0.mk (below_then L5.out L5.out.size l6)
    replace O2 := Aside0.mk (O2.lower L5.out.size)
    refine hK.out _ _ ⟨hHeld.out.below l6⟩ (fun hHeld => ?_)
    clear l6 hK K L5 HI
    refine norm_ (a' := ?_) ?_ ?_
    rotate_left
    · show Act.put _ (some 19) _ = _
      simp only [Act.put, List.setIfInBounds_toArray, List.set_cons_zero, List.set_cons_succ, i64_w, i32_w]
      rfl
    refine pure_ (i := 6) (N := some 4) (v := ?_) (a' := ?_) #[true, true, true, true, true, true, true] rfl rfl (any_of HT_.out (by kernel_rfl)) (fun _ _ _ h => h) (Or.inl ⟨by rfl, ?_⟩) ?_ ?_
    rotate_left
    · intro w'
      go_simp
      with_reducible rfl
    rotate_left
    · simp only [Act.put, List.setIfInBounds_toArray, List.set_cons_zero, List.set_cons_succ, i64_w, i32_w]
      rfl
    refine done_ (done_of HT_.out (by kernel_rfl)) ?_
    go_wp2
    go_ret
    refine ⟨_, rfl, ?_, L6.out⟩
    rw [macW, hs, ← hKe.out, hI.out]
    exact O2.out
  · have q0 : ((64 : Int) < (key.length : Int)) = False := eq_false (by omega)
    have hs : shortW key = key := if_neg hlong
    have CX := Aside0.mk (Kd.C_below HR.out L0.out)

    have hall := slice_all0 (w.alloc (.cells (nums .u8 (List.replicate 64 0)).toArray 188)) w.heap.size
    go_wp2_with ((refine wpList_copy_splice rfl _ _ 25 25 rfl 5 Tryz.underlying25 (by kernel_rfl) (some ⟨w.heap.size, 0, none⟩) A 64 64 key.length c rfl rfl w.heap.size 0 (nums .u8 (List.replicate 64 0)) 188 Z0.out.out (nums .u8 key) (by rw [nums_len]; unfold Nat.min; omega) (fun hp => ⟨rfl, C_cells CX.out (by rw [nums_len] at hp; exact hp)⟩) (by rw [nums_len, nums_len, List.length_replicate]; omega) oneCell_nums w.heap.size w L0.out (Nat.le_refl _) ?_; intro w2 B2 L2))
    have B3 := Aside0.mk (show Bk w2 w.heap.size 188 (nums .u8 (keyW key)) from ⟨by rw [← key_splice key (by omega)]; exact B2.out⟩)
    have hz2 : w.heap.size < w2.heap.size := B3.out.lt
    replace L2 := Aside0.mk L2
    clear B2 CX Z0 L0 hall
    have hKb := keyW_length key (by omega)
    obtain ⟨Kb, hKe⟩ : ∃ Kb, Kb = keyW key := ⟨_, rfl⟩
    rw [← hKe] at B3 hKb
    replace hKe := Aside0.mk hKe
    replace hKb := Aside0.mk hKb
    refine start_ (n := 7) (S := fun w' => Aside0 (Bk w' w.heap.size 188 (nums .u8 Kb))) (ds := []) #[false, false, false, false, false, false, false] (by kernel_rfl) rfl rfl ⟨B3.out.drew⟩ (fun hHeld => ?_)
    refine with_tabW hmac_all1.tab5 hmac_all1.bits5 (fun HT_ HW_ => ?_)
    have L3 := Aside0.mk (show Below w.heap.size w w2.drew from L2.out.drew)
    have hz3 : w.heap.size < w2.drew.heap.size := hz2
    generalize w2.drew = w3 at L3 hz3 hHeld ⊢
    refine take_ (i := 0) (N := some 14) (v := ?_) (a' := ?_) #[true, false, false, false, false, false, false] rfl rfl (take_ofW HT_.out HW_.out (by kernel_rfl)) (fun _ _ _ h => h) (Or.inl ⟨by rfl, ?_⟩) hHeld ?_ ?_
    rotate_left
    · intro w' hS'
      refine exec_load_mid (ty := 188) (x := .tmp 5) (cs := nums .u8 Kb) (off := 0) ?_ ?_ hS'.out (nums .u8 Kb) (fun i hi => by rw [Nat.zero_add]) (.array 64 5) (by kernel_rfl) rfl ((show _ = some 64 by kernel_rfl).trans (by rw [nums_len, hKb.out]))
      · rfl
      · rfl
    rotate_left
    · simp only [Act.put, List.setIfInBounds_toArray, List.set_cons_zero, List.set_cons_succ, i64_w, i32_w]
      rfl
    refine take_ (i := 1) (N := some 15) (v := ?_) (a' := ?_) #[true, true, false, false, false, false, false] rfl rfl (take_ofW HT_.out HW_.out (by kernel_rfl)) (fun _ _ _ h => h) (Or.inl ⟨by rfl, ?_⟩) hHeld ?_ ?_
    rotate_left
    · intro w' hS'
      refine exec_load_mid (ty := 188) (x := .tmp 5) (cs := nums .u8 Kb) (off := 0) ?_ ?_ hS'.out (nums .u8 Kb) (fun i hi => by rw [Nat.zero_add]) (.array 64 5) (by kernel_rfl) rfl ((show _ = some 64 by kernel_rfl).trans (by rw [nums_len, hKb.out]))
      · rfl
      · rfl
    rotate_left
    · simp only [Act.put, List.setIfInBounds_toArray, List.set_cons_zero, List.set_cons_succ, i64_w, i32_w]
      rfl
    refine pure_ (i := 2) (N := some 16) (v := ?_) (a' := ?_) #[true, true, true, false, false, false, false] rfl rfl (any_of HT_.out (by kernel_rfl)) (fun _ _ _ h => h) (Or.inl ⟨by rfl, ?_⟩) ?_ ?_
    rotate_left
    · intro w'
      go_simp
      with_reducible rfl
    rotate_left
    · simp only [Act.put, List.setIfInBounds_toArray, List.set_cons_zero, List.set_cons_succ, i64_w, i32_w]
      rfl
    refine one_ (i := 3) (N := some 17) #[true, true, true, true, false, false, false] rfl rfl (one_of HT_.out (by kernel_rfl)) (by decide) (fun K hK => ?_)
    refine goes_ Tryz.func188 (by kernel_rfl) rfl #[.agg (nums .u8 Kb).toArray, .int .u8 54, .slice (some ⟨gl, 0, none⟩) n cl] (by rfl) rfl rfl (by (try simp only [List.map_toArray, List.map_cons, List.map_nil]); first | done | rfl) ?_
    with_reducible refine (summed_any Kb 54 gl n cl bs w3 hKb.out (HL.out.below L3.out hgl rfl) (Nat.lt_of_lt_of_le hgl L3.out.size) hn hm hm2).mono ?_
    rintro e w' ⟨v1, rfl, O1, l4⟩
    refine ⟨_, rfl, ?_⟩
    have n1_ := Aside0.mk (below_then L3.out L3.out.size l4)
    have hz4 : w.heap.size < w'.heap.size := Nat.lt_of_lt_of_le hz3 l4.size
    replace O1 := Aside0.mk (O1.lower L3.out.size)
    refine hK.out _ _ ⟨hHeld.out.below l4⟩ (fun hHeld => ?_)
    clear L3 hK K l4
    have L4 := n1_
    clear n1_
    have e32 := summedW_length Kb 54 bs
    obtain ⟨g1, c1, rfl, hb1, hc1, hr1⟩ := O1.out.readsC (by rw [e32]; decide) (by rw [e32]; decide)
    clear O1
    generalize hI : summedW Kb 54 bs = I at e32 hc1 hr1 ⊢
    replace hI := Aside0.mk hI
    replace hr1 := Aside0.mk hr1
    generalize w' = w4 at hHeld L4 hz4 hr1 ⊢
    refine norm_ (a' := ?_) ?_ ?_
    rotate_left
    · show Act.put _ (some 17) _ = _
      simp only [Act.put, List.setIfInBounds_toArray, List.set_cons_zero, List.set_cons_succ, i64_w, i32_w]
      rfl
    refine one_ (i := 4) (N := some 18) #[true, true, true, true, true, false, false] rfl rfl (one_of HT_.out (by kernel_rfl)) (by decide) (fun K hK => ?_)
    refine value_ (v := .slice (some ⟨w4.heap.size, 0, none⟩) 1 1) (w1 := w4.alloc (.cells #[.slice (some ⟨g1, 0, none⟩) I.length c1] 25)) (by rfl) rfl (by go_simp) ?_
    have n1_ := Aside0.mk (L4.out.alloc L4.out.size (.cells #[.slice (some ⟨g1, 0, none⟩) I.length c1] 25))
    have n2_ : Aside0 (Lists (w4.alloc (.cells #[.slice (some ⟨g1, 0, none⟩) I.length c1] 25)) w4.heap.size [I]) := ⟨⟨fun j hj => by
      obtain rfl : j = 0 := by simpa using hj
      exact ⟨some ⟨g1, 0, none⟩, c1, cell_alloc_mark_at2 w4 _ _ (0, 0) 0, Kd.C_below hr1.out ((Below.refl _ _).alloc (Nat.le_refl _) _), hc1⟩⟩⟩
    have hz5 : w4.heap.size < (w4.alloc (.cells #[.slice (some ⟨g1, 0, none⟩) I.length c1] 25)).heap.size := by simp
    refine hK.out _ _ ⟨hHeld.out.alloc _⟩ (fun hHeld => ?_)
    clear hr1 L4 hK K
    have L5 := n1_
    have HI := n2_
    clear n1_ n2_
    generalize w4.alloc (.cells #[.slice (some ⟨g1, 0, none⟩) I.length c1] 25) = w5 at hHeld L5 HI hz5 ⊢
    refine norm_ (a' := ?_) ?_ ?_
    rotate_left
    · show Act.put _ (some 18) _ = _
      simp only [Act.put, List.setIfInBounds_toArray, List.set_cons_zero, List.set_cons_succ, i64_w, i32_w]
      rfl
    refine one_ (i := 5) (N := some 19) #[true, true, true, true, true, true, false] rfl rfl (one_of HT_.out (by kernel_rfl)) (by decide) (fun K hK => ?_)
    refine goes_ Tryz.func188 (by kernel_rfl) rfl #[.agg (nums .u8 Kb).toArray, .int .u8 92, .slice (some ⟨w4.heap.size, 0, none⟩) 1 1] (by rfl) rfl rfl (by (try simp only [List.map_toArray, List.map_cons, List.map_nil]); first | done | rfl) ?_
    with_reducible refine (summed_any Kb 92 w4.heap.size 1 1 [I] w5 hKb.out HI.out hz5 rfl (by simp; omega) (by decide)).mono ?_
    rintro e w' ⟨v2, rfl, O2, l6⟩
    refine ⟨_, rfl, ?_⟩
    have L6 := Aside0.mk (below_then L5.out L5.out.size l6)
    replace O2 := Aside0.mk (O2.lower L5.out.size)
    refine hK.out _ _ ⟨hHeld.out.below l6⟩ (fun hHeld => ?_)
    clear l6 hK K L5 HI
    refine norm_ (a' := ?_) ?_ ?_
    rotate_left
    · show Act.put _ (some 19) _ = _
      simp only [Act.put, List.setIfInBounds_toArray, List.set_cons_zero, List.set_cons_succ, i64_w, i32_w]
      rfl
    refine pure_ (i := 6) (N := some 4) (v := ?_) (a' := ?_) #[true, true, true, true, true, true, true] rfl rfl (any_of HT_.out (by kernel_rfl)) (fun _ _ _ h => h) (Or.inl ⟨by rfl, ?_⟩) ?_ ?_
    rotate_left
    · intro w'
      go_simp
      with_reducible rfl
    rotate_left
    · simp only [Act.put, List.setIfInBounds_toArray, List.set_cons_zero, List.set_cons_succ, i64_w, i32_w]
      rfl
    refine done_ (done_of HT_.out (by kernel_rfl)) ?_
    go_wp2
    go_ret
    refine ⟨_, rfl, ?_, L6.out⟩
    rw [macW, hs, ← hKe.out, hI.out]
    exact O2.out
end Go.Proofs.YtkennblgbfhjiaaGreatDoor.Q
