import Derived.Test.YtgdogjnjbinoiaaDoorDshaX
import Derived.Test.YtgdogjnjbinoiaaDoorDshabX
import Derived.Test.YtgdogjnjbinoiaaDoorDmerkX
import Derived.Test.YtgdogjnjbinoiaaDoorHarr
import Derived.Test.YtgdogjnjbinoiaaDoorHmem
import Derived.Test.YtgdogjnjbinoiaaDoorB2
import Derived.Test.YtgdogjnjbinoiaaDoorB3
import Derived.Test.YtgdogjnjbinoiaaDoorB4
namespace Go.Proofs.YtgdogjnjbinoiaaDoor.Q
open Go.RowKit Go.Proofs.YtgdogjnjbinoiaaDoorW.PrintWords Go.Proofs.YtgdogjnjbinoiaaDoorW.PrintLast Go.Proofs.YtgdogjnjbinoiaaDoorW.PrintMore Go.Proofs.YtgdogjnjbinoiaaDoor.H
set_option linter.unusedVariables false
set_option linter.unusedSimpArgs false
def hash_write1.T7 : Bool × List (List Nat × List Nat) := (true, [([], []), ([0], [0]), ([1], [1]), ([], []), ([3], [3]), ([4], [4]), ([5], [5]), ([6], [6]), ([2, 7], [2, 7]), ([], []), ([8, 9], [8, 9]), ([10, 10, 0, 1, 2, 3, 4, 5, 6, 7, 8, 9, 10], [10])])
def hash_write1.B7 : List Nat := [0, 1, 3, 0, 8, 24, 56, 120, 255, 0, 1023, 2047]
theorem hash_write1.tab7 : rtab .any (opsOf Tryd.f47 7) = hash_write1.T7 := by kernel_rfl
theorem hash_write1.bits7 : waitsOk hash_write1.T7.2 hash_write1.B7 = true := by kernel_rfl
def hash_write1.T11 : Bool × List (List Nat × List Nat) := (true, [([], []), ([], []), ([1], [1]), ([2], [2]), ([3], [3]), ([], []), ([5], [5]), ([6], [6]), ([7], [7]), ([4, 8], [4, 8]), ([0, 0, 1, 2, 3, 4, 5, 6, 7, 8, 9], [0]), ([10, 0, 1, 2, 3, 4, 5, 6, 7, 8, 9], [10]), ([11, 9, 9, 0, 1, 2, 3, 4, 5, 6, 7, 8, 9], [9, 11])])
def hash_write1.B11 : List Nat := [0, 0, 2, 6, 14, 0, 32, 96, 224, 510, 1023, 2047, 4095]
theorem hash_write1.tab11 : rtab .any (opsOf Tryd.f47 11) = hash_write1.T11 := by kernel_rfl
theorem hash_write1.bits11 : waitsOk hash_write1.T11.2 hash_write1.B11 = true := by kernel_rfl
def hash_write2.T7 : Bool × List (List Nat × List Nat) := (true, [([], []), ([0], [0]), ([1], [1]), ([], []), ([3], [3]), ([4], [4]), ([5], [5]), ([6], [6]), ([2, 7], [2, 7]), ([], []), ([8, 9], [8, 9]), ([10, 10, 0, 1, 2, 3, 4, 5, 6, 7, 8, 9, 10], [10])])
def hash_write2.B7 : List Nat := [0, 1, 3, 0, 8, 24, 56, 120, 255, 0, 1023, 2047]
theorem hash_write2.tab7 : rtab .any (opsOf Tryd.f47 7) = hash_write2.T7 := by kernel_rfl
theorem hash_write2.bits7 : waitsOk hash_write2.T7.2 hash_write2.B7 = true := by kernel_rfl
def hash_write2.T11 : Bool × List (List Nat × List Nat) := (true, [([], []), ([], []), ([1], [1]), ([2], [2]), ([3], [3]), ([], []), ([5], [5]), ([6], [6]), ([7], [7]), ([4, 8], [4, 8]), ([0, 0, 1, 2, 3, 4, 5, 6, 7, 8, 9], [0]), ([10, 0, 1, 2, 3, 4, 5, 6, 7, 8, 9], [10]), ([11, 9, 9, 0, 1, 2, 3, 4, 5, 6, 7, 8, 9], [9, 11])])
def hash_write2.B11 : List Nat := [0, 0, 2, 6, 14, 0, 32, 96, 224, 510, 1023, 2047, 4095]
theorem hash_write2.tab11 : rtab .any (opsOf Tryd.f47 11) = hash_write2.T11 := by kernel_rfl
theorem hash_write2.bits11 : waitsOk hash_write2.T11.2 hash_write2.B11 = true := by kernel_rfl
/-- A hash's inside, behind the writing of m. -/
structure HS (m s p : List Int) : Prop where
  s8 : s.length = 8
  p64 : p.length = 64
  st : s = foldB m (m.length / 64)
  rest : p.take (m.length % 64) = m.drop (64 * (m.length / 64))
theorem HS_nil (p : List Int) (hp : p.length = 64) : HS [] hFirst p := ⟨rfl, hp, rfl, by simp⟩
theorem HS_step {m s p : List Int} (h : HS m s p) (x : List Int) (hx : m.length % 64 + x.length ≤ 64) :
    if (m.length + x.length) % 64 = 0 then (0 < x.length → HS (m ++ x) (throughW s (splice p (m.length % 64) x)) (splice p (m.length % 64) x)) else HS (m ++ x) s (splice p (m.length % 64) x) := by
  have hlen : (splice p (m.length % 64) x).length = 64 := by rw [length_splice _ _ _ (by rw [h.p64]; exact hx)]; exact h.p64
  have hq : (splice p (m.length % 64) x).take (m.length % 64 + x.length) = (m ++ x).drop (64 * (m.length / 64)) := by
    have hl : (p.take (m.length % 64)).length = m.length % 64 := by rw [List.length_take, h.p64]; omega
    unfold splice
    rw [← List.append_assoc, List.take_append_of_le_length (by rw [List.length_append, hl]; exact Nat.le_refl _), List.take_of_length_le (by rw [List.length_append, hl]; exact Nat.le_refl _), h.rest, List.drop_append_of_le_length (by omega)]
  split
  · intro hx0
    have hd : (m.length + x.length) / 64 = m.length / 64 + 1 := by omega
    have h64 : m.length % 64 + x.length = 64 := by omega
    refine ⟨(throughW_length _ _).trans h.s8, hlen, ?_, ?_⟩
    · rw [List.length_append, hd, foldB, foldB_more m x _ (by omega), ← h.st, ← hq, h64, List.take_take, Nat.min_self, List.take_of_length_le (Nat.le_of_eq hlen)]
    · rw [List.length_append, hd, List.drop_of_length_le (by rw [List.length_append]; omega), show (m.length + x.length) % 64 = 0 by omega]
      rfl
  · have hd : (m.length + x.length) / 64 = m.length / 64 := by omega
    have hm : (m.length + x.length) % 64 = m.length % 64 + x.length := by omega
    refine ⟨h.s8, hlen, ?_, ?_⟩
    · rw [List.length_append, hd, foldB_more m x _ (by omega)]
      exact h.st
    · rw [List.length_append, hd, hm]
      exact hq
/-- The cells of a hash. -/
def hashCells (b : Bool) (s p : List Int) (n : Nat) : List Value := .bool b :: (nums .u32 s ++ (nums .u8 p ++ [.int .i64 n]))
theorem hash_len (b : Bool) (s p : List Int) (n : Nat) (hs : s.length = 8) (hp : p.length = 64) : (hashCells b s p n).length = 74 := by simp [hashCells, nums, hs, hp]
theorem hash_one (b : Bool) (s p : List Int) (n : Nat) : ∀ v ∈ hashCells b s p n, v.oneCell' = true := by
  intro v hv
  simp only [hashCells, List.mem_cons, List.mem_append] at hv
  rcases hv with rfl | hv | hv | rfl | hv
  · rfl
  · exact oneCell_nums v hv
  · exact oneCell_nums v hv
  · rfl
  · cases hv
theorem hash73 (b : Bool) (s p : List Int) (n : Nat) (hs : s.length = 8) (hp : p.length = 64) : (hashCells b s p n)[73]? = some (.int .i64 n) := by
  have hs' : (nums .u32 s).length = 8 := by simp [nums, hs]
  have hp' : (nums .u8 p).length = 64 := by simp [nums, hp]
  simp [hashCells, List.getElem?_append, hs', hp']
theorem hash_set73 (b : Bool) (s p : List Int) (n k : Nat) (hs : s.length = 8) (hp : p.length = 64) : (hashCells b s p n).set 73 (.int .i64 k) = hashCells b s p k := by
  have hs' : (nums .u32 s).length = 8 := by simp [nums, hs]
  have hp' : (nums .u8 p).length = 64 := by simp [nums, hp]
  simp [hashCells, List.set_append, hs', hp']
theorem hash_set0 (b c : Bool) (s p : List Int) (n : Nat) : (hashCells b s p n).set 0 (.bool c) = hashCells c s p n := rfl
theorem hash_state (b : Bool) (s s' p : List Int) (n : Nat) (h : s'.length = s.length) : splice (hashCells b s p n) 1 (nums .u32 s') = hashCells b s' p n :=
  splice_whole [Value.bool b] (nums .u32 s) (nums .u8 p ++ [.int .i64 n]) (nums .u32 s') (by simp [nums, h])
theorem hash_part (b : Bool) (s p x : List Int) (o n : Nat) (hs : s.length = 8) (h : o + x.length ≤ p.length) : splice (hashCells b s p n) (9 + o) (nums .u8 x) = hashCells b s (splice p o x) n := by
  have := splice_mid (Value.bool b :: nums .u32 s) (nums .u8 p) [Value.int .i64 n] o (nums .u8 x) (by simp [nums]; omega)
  rw [nums_splice] at this
  have hl : (Value.bool b :: nums .u32 s).length = 9 := by simp [nums, hs]
  rw [hl] at this
  simpa [hashCells] using this
theorem hash_s (b : Bool) (s p : List Int) (n : Nat) (hs : s.length = 8) (j : Nat) (hj : j < (nums .u32 s).length) : (hashCells b s p n)[1 + j]? = (nums .u32 s)[j]? := by
  rw [hashCells, Nat.add_comm, List.getElem?_cons_succ, List.getElem?_append_left hj]
theorem hash_p (b : Bool) (s p : List Int) (n : Nat) (hs : s.length = 8) (j : Nat) (hj : j < (nums .u8 p).length) : (hashCells b s p n)[9 + j]? = (nums .u8 p)[j]? := by
  have hl : (nums .u32 s).length = 8 := by simp [nums, hs]
  rw [hashCells, show 9 + j = 8 + j + 1 by omega, List.getElem?_cons_succ, List.getElem?_append_right (by omega), hl, show 8 + j - 8 = j by omega, List.getElem?_append_left hj]
/-- Block g is a hash of what was written. -/
structure HashRep (w : World) (g : Nat) (m : List Int) : Prop where mk :: (out : ∃ b s p, Bk w g 67 (hashCells b s p m.length) ∧ s.length = 8 ∧ p.length = 64 ∧ (b = true → HS m s p) ∧ (b = false → m = []))
/-- The same, begun. -/
structure HashOn (w : World) (g : Nat) (m : List Int) : Prop where mk :: (out : ∃ s p, Bk w g 67 (hashCells true s p m.length) ∧ HS m s p)
theorem HashOn.rep {w : World} {g : Nat} {m : List Int} (h : HashOn w g m) : HashRep w g m := by
  obtain ⟨s, p, h1, h2⟩ := h.out
  exact ⟨true, s, p, h1, h2.s8, h2.p64, fun _ => h2, fun h => by cases h⟩
def slLen : Value → Nat
  | .slice _ n _ => n
  | _ => 0
theorem slice_part (w : World) (g o : Nat) (ho : o < 64) : (Instr.sliceAt 65 (.pointer (some ⟨g, 9, none⟩)) (some (.int .i64 (o : Int))) none none).run Tryd.prog w = .ok (.slice (some ⟨g, 9 + o, none⟩) (64 - o) (64 - o)) w := by
  have ha : Tryd.prog.underlying 65 = some (.array (Tryd.prog.arrayLen 65) (Tryd.prog.elem 65)) := by kernel_rfl
  have hl : Tryd.prog.arrayLen 65 = 64 := by kernel_rfl
  have hs : (sizeOf (Tryd.prog.elem 65)).run Tryd.prog w = .ok 1 w := by kernel_rfl
  rw [run_sliceAt_array_l w _ _ ha .i64 (o : Int) (by omega) (by rw [hl]; omega), hs, hl]
  have h2 : ¬ (64 = o) := by omega
  simp [Result.andThen, slicedAt, h2, Addr.add_mid]
theorem slice_all (w : World) (g : Nat) : (Instr.sliceAt 65 (.pointer (some ⟨g, 9, none⟩)) none none none).run Tryd.prog w = .ok (.slice (some ⟨g, 9, none⟩) 64 64) w := by
  have ha : Tryd.prog.underlying 65 = some (.array (Tryd.prog.arrayLen 65) (Tryd.prog.elem 65)) := by kernel_rfl
  have hl : Tryd.prog.arrayLen 65 = 64 := by kernel_rfl
  have hs : (sizeOf (Tryd.prog.elem 65)).run Tryd.prog w = .ok 1 w := by kernel_rfl
  rw [run_sliceAt_array_all w _ _ ha, hs, hl]
  simp [Result.andThen, slicedAt, Addr.add_mid]
set_option maxHeartbeats 2000000 in
set_option maxRecDepth 100000 in
theorem write_any (g : Nat) (A : Option Addr) (c : Nat) (m b : List Int) (w : World) (hH : HashRep w g m) (hr : Kd.C (Kd.int .u8) w A b.length b) (hc : b.length ≤ c) (hA : b.length = 0 ∨ ∀ ad, A = some ad → some ad.block ≠ some g) (hm : m.length + b.length ≤ 1099511627776) :
    Calls Tryd.prog 47 #[.pointer (some ⟨g, 0, none⟩), .slice A b.length c] w fun e w' =>
      e = .returned (.int .i64 b.length) ∧ HashOn w' g (m ++ b) ∧ w.grownBy w' (some g) := by
  have HR : Aside0 (∀ W, w.grownBy W (some g) → ReadsOf (Value.int .u8) 0 W A b.length b) := ⟨fun W hW => Kd.reads_of_C (enc := Value.int .u8) (d := (0 : Int)) (h1 := fun _ => rfl) (C_grown hr hW hA)⟩
  clear hr hA
  obtain ⟨bg, s, p, BK, hs, hp, hb1, hb2⟩ := hH.out
  clear hH
  have F0 := BK.frozen 0
  have C0 : w.cell? ⟨g, 0, none⟩ = some (.bool bg) := BK.cell 0
  replace BK := Aside0.mk BK
  obtain ⟨i0, hi0, _, hsz0, _⟩ := info_parts info5
  cases bg with
  | false =>
    have hm0 := hb2 rfl
    replace hm0 := Aside0.mk hm0
    clear hb1 hb2
    go_enter Tryd.func47, Tryd.ntmps47
    go_wp2_with fail
    refine (first_any _).mono ?_
    rintro e w1 ⟨rfl, l1⟩
    replace BK := Aside0.mk (BK.out.below l1)
    replace F0 := BK.out.frozen 0
    replace C0 : w1.cell? ⟨g, 0, none⟩ = some (.bool false) := BK.out.cell 0
    have GR := Aside0.mk (grown_of_below0 l1 (some g))
    have hsz : w.heap.size ≤ w1.heap.size := l1.size
    clear l1
    go_wp2_with (refine store_mid rfl _ _ _ rfl 1 rfl (nums .u32 hFirst) rfl (BK.out.set 0 (.bool true)) (by rw [List.length_set, hash_len _ _ _ _ hs hp]; decide) ((show _ = some 8 by kernel_rfl).trans (by simp [nums]; rfl)) oneCell_nums ?_; intro w2 B2 g2 z2; rw [hash_set0, hash_state _ _ _ _ _ (by rw [hs]; rfl)] at B2; replace BK := Aside0.mk B2; replace GR := Aside0.mk ((GR.out.trans (grown_set w1 g 0 (.bool true))).trans g2); replace z2 : w2.heap.size = w1.heap.size := (by rw [z2]; simp); clear g2 B2)
    replace hsz : w.heap.size ≤ w2.heap.size := by omega
    have HS0 := Aside0.mk (show HS m hFirst p by rw [hm0.out]; exact HS_nil p hp)

    clear C0 F0
    go_loopw [1] (fun v wr => ∃ (r : List Int) (A' : Option Addr) (c' j : Nat) (s' p' : List Int), v = .slice A' r.length c' ∧ r.length ≤ c' ∧ j + r.length = b.length ∧ Aside0 (r = b.drop j) ∧ Aside0 (∀ W, w.grownBy W (some g) → ReadsOf (Value.int .u8) 0 W A' r.length r) ∧ Aside0 (HS (m ++ b.take j) s' p') ∧ Aside0 (Bk wr g 67 (hashCells true s' p' (m.length + j))) ∧ Aside0 (w.grownBy wr (some g)) ∧ w.heap.size ≤ wr.heap.size) (fun v _ => slLen v)
    case atStart => exact ⟨b, A, c, 0, _, _, rfl, hc, by omega, ⟨rfl⟩, HR, ⟨by simpa using HS0.out⟩, BK, GR, hsz⟩
    case round =>
      clear HS0 BK GR HR hsz
      obtain ⟨r, A', c', j, s', p', rfl, hc', hj, RJ, HR, HS0, BK, GR, hsz⟩ := hrel
      by_cases hpos : 0 < r.length
      · have q0 : ((0 : Int) < (r.length : Int)) = True := eq_true (by omega)
        have hz0 : r.length ≠ 0 := by omega
        obtain ⟨n, hn⟩ : ∃ n, n = m.length + j := ⟨_, rfl⟩
        rw [← hn] at BK
        have n1 : n ≤ 1099511627776 := by omega
        obtain ⟨o, ho⟩ : ∃ o, o = n % 64 := ⟨_, rfl⟩
        obtain ⟨k, hk⟩ : ∃ k, k = min r.length (64 - o) := ⟨_, rfl⟩
        have o1 : o < 64 := by omega
        have k1 : 0 < k := by omega
        have k2 : k ≤ r.length := by omega
        have k3 : o + k ≤ 64 := by omega
        have k4 := Aside0.mk (show k = Nat.min r.length (64 - o) from hk)
        have hrem : (n : Int).tmod 64 = (o : Int) := by rw [ho, Int.tmod_eq_emod_of_nonneg (by omega)]; rfl
        replace hn := Aside0.mk hn
        replace ho := Aside0.mk ho
        replace hk := Aside0.mk hk
        have S8 := HS0.out.s8
        have P64 := HS0.out.p64
        obtain ⟨ad, hA, hcell⟩ := (HR.out wr GR.out).2.2 hpos
        subst hA
        go_wp2
        refine start_ (n := 12) (S := fun w' => Aside0 (Bk w' g 67 (hashCells true s' p' n))) (ds := [10]) #[false, false, false, false, false, false, false, false, false, false, false, false] (by kernel_rfl) rfl rfl ⟨BK.out.drew⟩ (fun hHeld => ?_)
        refine with_tabW hash_write2.tab7 hash_write2.bits7 (fun HT_ HW_ => ?_)
        have G1 := Aside0.mk (GR.out.trans (grown_drew wr (some g)))
        have hcell1 : ∀ j, j < r.length → wr.drew.cell? (ad.add j) = some (.int .u8 (r.getD j 0)) := hcell
        have z1 : wr.drew.heap.size = wr.heap.size := rfl
        generalize wr.drew = w2 at G1 hHeld hcell1 z1 ⊢
        refine pure_ (i := 0) (N := some 26) (v := ?_) (a' := ?_) #[true, false, false, false, false, false, false, false, false, false, false, false] rfl rfl (any_of HT_.out (by kernel_rfl)) (fun _ _ _ h => h) (Or.inl ⟨by rfl, ?_⟩) ?_ ?_
        rotate_left
        · intro w'
          go_simp
          with_reducible rfl
        rotate_left
        · simp only [Act.put, List.setIfInBounds_toArray, List.set_cons_zero, List.set_cons_succ, i64_w, i32_w]
          rfl
        refine pure_ (i := 1) (N := some 27) (v := ?_) (a' := ?_) #[true, true, false, false, false, false, false, false, false, false, false, false] rfl rfl (any_of HT_.out (by kernel_rfl)) (fun _ _ _ h => h) (Or.inl ⟨by rfl, ?_⟩) ?_ ?_
        rotate_left
        · intro w'
          go_simp
          with_reducible rfl
        rotate_left
        · simp only [Act.put, List.setIfInBounds_toArray, List.set_cons_zero, List.set_cons_succ, i64_w, i32_w]
          rfl
        refine pure_ (i := 2) (N := some 28) (v := ?_) (a' := ?_) #[true, true, true, false, false, false, false, false, false, false, false, false] rfl rfl (any_of HT_.out (by kernel_rfl)) (fun _ _ _ h => h) (Or.inl ⟨by rfl, ?_⟩) ?_ ?_
        rotate_left
        · intro w'
          go_simp
          with_reducible rfl
        rotate_left
        · simp only [Act.put, List.setIfInBounds_toArray, List.set_cons_zero, List.set_cons_succ, i64_w, i32_w]
          rfl
        refine pure_ (i := 3) (N := some 29) (v := ?_) (a' := ?_) #[true, true, true, true, false, false, false, false, false, false, false, false] rfl rfl (any_of HT_.out (by kernel_rfl)) (fun _ _ _ h => h) (Or.inl ⟨by rfl, ?_⟩) ?_ ?_
        rotate_left
        · intro w'
          go_simp
          with_reducible rfl
        rotate_left
        · simp only [Act.put, List.setIfInBounds_toArray, List.set_cons_zero, List.set_cons_succ, i64_w, i32_w]
          rfl
        refine pure_ (i := 4) (N := some 30) (v := ?_) (a' := ?_) #[true, true, true, true, true, false, false, false, false, false, false, false] rfl rfl (any_of HT_.out (by kernel_rfl)) (fun _ _ _ h => h) (Or.inl ⟨by rfl, ?_⟩) ?_ ?_
        rotate_left
        · intro w'
          go_simp
          with_reducible rfl
        rotate_left
        · simp only [Act.put, List.setIfInBounds_toArray, List.set_cons_zero, List.set_cons_succ, i64_w, i32_w]
          rfl
        refine pure_ (i := 5) (N := some 31) (v := ?_) (a' := ?_) #[true, true, true, true, true, true, false, false, false, false, false, false] rfl rfl (any_of HT_.out (by kernel_rfl)) (fun _ _ _ h => h) (Or.inl ⟨by rfl, ?_⟩) ?_ ?_
        rotate_left
        · intro w'
          go_simp
          with_reducible rfl
        rotate_left
        · simp only [Act.put, List.setIfInBounds_toArray, List.set_cons_zero, List.set_cons_succ, i64_w, i32_w]
          rfl
        refine take_ (i := 6) (N := some 32) (v := ?_) (a' := ?_) #[true, true, true, true, true, true, true, false, false, false, false, false] rfl rfl (take_ofW HT_.out HW_.out (by kernel_rfl)) (fun _ _ _ h => h) (Or.inl ⟨by rfl, ?_⟩) hHeld ?_ ?_
        rotate_left
        · intro w' hS'
          have hc := (hS'.out.cell 73).trans (hash73 true s' p' n S8 P64)
          go_simp
          with_reducible rfl
        rotate_left
        · simp only [Act.put, List.setIfInBounds_toArray, List.set_cons_zero, List.set_cons_succ, i64_w, i32_w]
          rfl
        refine pure_ (i := 7) (N := some 33) (v := ?_) (a' := ?_) #[true, true, true, true, true, true, true, true, false, false, false, false] rfl rfl (any_of HT_.out (by kernel_rfl)) (fun _ _ _ h => h) (Or.inl ⟨by rfl, ?_⟩) ?_ ?_
        rotate_left
        · intro w'
          go_simp
          with_reducible rfl
        rotate_left
        · simp only [Act.put, List.setIfInBounds_toArray, List.set_cons_zero, List.set_cons_succ, i64_w, i32_w]
          rfl
        refine pure_ (i := 8) (N := some 34) (v := ?_) (a' := ?_) #[true, true, true, true, true, true, true, true, true, false, false, false] rfl rfl (any_of HT_.out (by kernel_rfl)) (fun _ _ _ h => h) (Or.inl ⟨by rfl, ?_⟩) ?_ ?_
        rotate_left
        · intro w'
          have hcut := slice_part w' g o o1
          go_simp
          with_reducible rfl
        rotate_left
        · simp only [Act.put, List.setIfInBounds_toArray, List.set_cons_zero, List.set_cons_succ, i64_w, i32_w]
          rfl
        refine pure_ (i := 9) (N := some 35) (v := ?_) (a' := ?_) #[true, true, true, true, true, true, true, true, true, true, false, false] rfl rfl (any_of HT_.out (by kernel_rfl)) (fun _ _ _ h => h) (Or.inl ⟨by rfl, ?_⟩) ?_ ?_
        rotate_left
        · intro w'
          go_simp
          with_reducible rfl
        rotate_left
        · simp only [Act.put, List.setIfInBounds_toArray, List.set_cons_zero, List.set_cons_succ, i64_w, i32_w]
          rfl
        refine last_ (i := 10) (N := some 36) #[true, true, true, true, true, true, true, true, true, true, true, false] rfl rfl (one_of HT_.out (by kernel_rfl)) (by decide) (fun K hK => ?_)
        refine step_copy rfl (.tmp 34) (.tmp 35) _ _ rfl 5 Tryd.underlying31 (by kernel_rfl) (9 + o) (64 - o) (64 - o) ad r.length c' (by rfl) (by rfl) hHeld.out (nums .u8 (r.take k)) k (by simp [nums]; omega) k4.out ?_ (by rw [hash_len _ _ _ _ S8 P64]; simp [nums]; omega) oneCell_nums ?_
        · intro i v hv
          rw [nums_getElem?] at hv
          have hi : i < r.length := by
            rcases Nat.lt_or_ge i r.length with h | h
            · exact h
            · rw [List.getElem?_eq_none (by simp; omega)] at hv; cases hv
          rw [hcell1 i hi, ← hv]
          have hik : i < k := by
            rcases Nat.lt_or_ge i k with h | h
            · exact h
            · rw [List.getElem?_eq_none (by simp; omega)] at hv; cases hv
          rw [List.getElem?_take_of_lt hik]
          simp [List.getD_eq_getElem?_getD, hi]
        intro w3 B3 g3 z3
        rw [hash_part _ _ _ _ _ _ S8 (by simp; omega)] at B3
        replace B3 := Aside0.mk B3
        replace G1 := Aside0.mk (G1.out.trans g3)
        have z3' : wr.heap.size ≤ w3.heap.size := by omega
        refine hK.out _ _ ?_
        clear hK K hHeld g3 z3 hcell1 z1
        refine pure_ (i := 11) (N := some 6) (v := ?_) (a' := ?_) #[true, true, true, true, true, true, true, true, true, true, true, true] rfl rfl (any_of HT_.out (by kernel_rfl)) (fun _ _ _ h => h) (Or.inl ⟨by rfl, ?_⟩) ?_ ?_
        rotate_left
        · intro w'
          go_simp
          with_reducible rfl
        rotate_left
        · simp only [Act.put, List.setIfInBounds_toArray, List.set_cons_zero, List.set_cons_succ, i64_w, i32_w]
          rfl
        refine done_ (done_of HT_.out (by kernel_rfl)) ?_
        clear hcell
        obtain ⟨p2, hp2⟩ : ∃ p2, p2 = splice p' o (r.take k) := ⟨_, rfl⟩
        rw [← hp2] at B3
        have P2 : p2.length = 64 := by rw [hp2, length_splice _ _ _ (by simp; omega)]; exact P64
        have F3 := B3.out.frozen 73
        have C3 : w3.cell? ⟨g, 73, none⟩ = some (.int .i64 n) := (B3.out.cell 73).trans (hash73 true s' p2 n S8 P2)
        obtain ⟨A2, hcut2, hrd2, hcl2⟩ := print_drop_of (P := Tryd.prog) (Value.int .u8) 0 31 5 .i64 Tryd.underlying31 hi0 hsz0 (some ad) c' r (k : Int) (by omega) (by omega) hc'
        simp only [Int.toNat_natCast] at hcut2 hrd2 hcl2
        have hrl : (r.drop k).length + k = r.length := by simp; omega
        have hdr := Aside0.mk (show r.drop k = b.drop (j + k) by rw [RJ.out, List.drop_drop])
        have htk := Aside0.mk (show m ++ b.take (j + k) = (m ++ b.take j) ++ r.take k by rw [RJ.out, List.append_assoc, List.take_add])
        have hml : (m ++ b.take j).length = n := by rw [hn.out]; simp; omega
        have hkl : (r.take k).length = k := by simp; omega
        have hstep := Aside0.mk (HS_step HS0.out (r.take k) (by rw [hml, hkl, ← ho.out]; exact k3))
        rw [hml, hkl, ← ho.out, ← hp2] at hstep
        have HR2 : Aside0 (∀ W, w.grownBy W (some g) → ReadsOf (Value.int .u8) 0 W A2 (r.drop k).length (r.drop k)) := ⟨fun W hW => hrd2 W (HR.out W hW)⟩
        clear hrd2 HR hml hkl RJ
        generalize hrk : r.drop k = r2 at *
        by_cases hdone : (n + k) % 64 = 0
        · rw [if_pos hdone] at hstep
          have q1 : ((n : Int) + (k : Int)).tmod 64 = 0 := by rw [Int.tmod_eq_emod_of_nonneg (by omega)]; omega
          go_wp2
          have B4 : Aside0 (Bk (w3.setCell ⟨g, 73, none⟩ (.int .i64 ((n : Int) + (k : Int)))) g 67 (hashCells true s' p2 (n + k))) := ⟨by
            have h := B3.out.set 73 (.int .i64 ((n + k : Nat) : Int))
            rw [hash_set73 true s' p2 n (n + k) S8 P2] at h
            exact h⟩
          have G4 := Aside0.mk (G1.out.trans (grown_set w3 g 73 (.int .i64 ((n : Int) + (k : Int)))))
          have z4 : w.heap.size ≤ (w3.setCell ⟨g, 73, none⟩ (.int .i64 ((n : Int) + (k : Int)))).heap.size := by simp; omega
          generalize World.setCell w3 _ _ = w4 at B4 G4 z4 ⊢
          clear C3 F3 G1 B3
          refine start_ (n := 13) (S := fun w' => Aside0 (Bk w' g 67 (hashCells true s' p2 (n + k)))) (ds := [12]) #[false, false, false, false, false, false, false, false, false, false, false, false, false] (by kernel_rfl) rfl rfl ⟨B4.out.drew⟩ (fun hHeld => ?_)
          refine with_tabW hash_write2.tab11 hash_write2.bits11 (fun HT_ HW_ => ?_)
          have G5 := Aside0.mk (G4.out.trans (grown_drew w4 (some g)))
          have z5 : w.heap.size ≤ w4.drew.heap.size := z4
          generalize World.drew w4 = w5 at G5 hHeld z5 ⊢
          refine pure_ (i := 0) (N := some 54) (v := ?_) (a' := ?_) #[true, false, false, false, false, false, false, false, false, false, false, false, false] rfl rfl (any_of HT_.out (by kernel_rfl)) (fun _ _ _ h => h) (Or.inl ⟨by rfl, ?_⟩) ?_ ?_
          rotate_left
          · intro w'
            go_simp
            with_reducible rfl
          rotate_left
          · simp only [Act.put, List.setIfInBounds_toArray, List.set_cons_zero, List.set_cons_succ, i64_w, i32_w]
            rfl
          refine pure_ (i := 1) (N := some 55) (v := ?_) (a' := ?_) #[true, true, false, false, false, false, false, false, false, false, false, false, false] rfl rfl (any_of HT_.out (by kernel_rfl)) (fun _ _ _ h => h) (Or.inl ⟨by rfl, ?_⟩) ?_ ?_
          rotate_left
          · intro w'
            go_simp
            with_reducible rfl
          rotate_left
          · simp only [Act.put, List.setIfInBounds_toArray, List.set_cons_zero, List.set_cons_succ, i64_w, i32_w]
            rfl
          refine pure_ (i := 2) (N := some 56) (v := ?_) (a' := ?_) #[true, true, true, false, false, false, false, false, false, false, false, false, false] rfl rfl (any_of HT_.out (by kernel_rfl)) (fun _ _ _ h => h) (Or.inl ⟨by rfl, ?_⟩) ?_ ?_
          rotate_left
          · intro w'
            go_simp
            with_reducible rfl
          rotate_left
          · simp only [Act.put, List.setIfInBounds_toArray, List.set_cons_zero, List.set_cons_succ, i64_w, i32_w]
            rfl
          refine pure_ (i := 3) (N := some 57) (v := ?_) (a' := ?_) #[true, true, true, true, false, false, false, false, false, false, false, false, false] rfl rfl (any_of HT_.out (by kernel_rfl)) (fun _ _ _ h => h) (Or.inl ⟨by rfl, ?_⟩) ?_ ?_
          rotate_left
          · intro w'
            go_simp
            with_reducible rfl
          rotate_left
          · simp only [Act.put, List.setIfInBounds_toArray, List.set_cons_zero, List.set_cons_succ, i64_w, i32_w]
            rfl
          refine take_ (i := 4) (N := some 58) (v := ?_) (a' := ?_) #[true, true, true, true, true, false, false, false, false, false, false, false, false] rfl rfl (take_ofW HT_.out HW_.out (by kernel_rfl)) (fun _ _ _ h => h) (Or.inl ⟨by rfl, ?_⟩) hHeld ?_ ?_
          rotate_left
          · intro w' hS'
            refine exec_load_mid (ty := 64) (x := .tmp 57) (cs := hashCells true s' p2 (n + k)) (off := 1) ?_ ?_ hS'.out (nums .u32 s') (fun i hi => hash_s true s' p2 _ S8 i hi) (.array 8 62) (by kernel_rfl) rfl ((show _ = some 8 by kernel_rfl).trans (by simp [nums, S8]))
            · rfl
            · rfl
          rotate_left
          · simp only [Act.put, List.setIfInBounds_toArray, List.set_cons_zero, List.set_cons_succ, i64_w, i32_w]
            rfl
          refine pure_ (i := 5) (N := some 59) (v := ?_) (a' := ?_) #[true, true, true, true, true, true, false, false, false, false, false, false, false] rfl rfl (any_of HT_.out (by kernel_rfl)) (fun _ _ _ h => h) (Or.inl ⟨by rfl, ?_⟩) ?_ ?_
          rotate_left
          · intro w'
            go_simp
            with_reducible rfl
          rotate_left
          · simp only [Act.put, List.setIfInBounds_toArray, List.set_cons_zero, List.set_cons_succ, i64_w, i32_w]
            rfl
          refine pure_ (i := 6) (N := some 60) (v := ?_) (a' := ?_) #[true, true, true, true, true, true, true, false, false, false, false, false, false] rfl rfl (any_of HT_.out (by kernel_rfl)) (fun _ _ _ h => h) (Or.inl ⟨by rfl, ?_⟩) ?_ ?_
          rotate_left
          · intro w'
            go_simp
            with_reducible rfl
          rotate_left
          · simp only [Act.put, List.setIfInBounds_toArray, List.set_cons_zero, List.set_cons_succ, i64_w, i32_w]
            rfl
          refine pure_ (i := 7) (N := some 61) (v := ?_) (a' := ?_) #[true, true, true, true, true, true, true, true, false, false, false, false, false] rfl rfl (any_of HT_.out (by kernel_rfl)) (fun _ _ _ h => h) (Or.inl ⟨by rfl, ?_⟩) ?_ ?_
          rotate_left
          · intro w'
            go_simp
            with_reducible rfl
          rotate_left
          · simp only [Act.put, List.setIfInBounds_toArray, List.set_cons_zero, List.set_cons_succ, i64_w, i32_w]
            rfl
          refine pure_ (i := 8) (N := some 62) (v := ?_) (a' := ?_) #[true, true, true, true, true, true, true, true, true, false, false, false, false] rfl rfl (any_of HT_.out (by kernel_rfl)) (fun _ _ _ h => h) (Or.inl ⟨by rfl, ?_⟩) ?_ ?_
          rotate_left
          · intro w'
            have hcut := slice_all w' g
            go_simp
            with_reducible rfl
          rotate_left
          · simp only [Act.put, List.setIfInBounds_toArray, List.set_cons_zero, List.set_cons_succ, i64_w, i32_w]
            rfl
          refine one_ (i := 9) (N := some 63) #[true, true, true, true, true, true, true, true, true, true, false, false, false] rfl rfl (one_of HT_.out (by kernel_rfl)) (by decide) (fun K hK => ?_)
          refine goes_ Tryd.func56 (by kernel_rfl) rfl #[.agg (nums .u32 s').toArray, .slice (some ⟨g, 9, none⟩) 64 64] (by rfl) rfl rfl (by (try simp only [List.map_toArray, List.map_cons, List.map_nil]); first | done | rfl) ?_
          have hcall := through_any (some ⟨g, 9, none⟩) 64 s' p2 w5 (hHeld.out.readsC 9 p2 (fun i hi => hash_p true s' p2 _ S8 i (by simpa [nums] using hi)) (by omega)) (by omega) P2 S8
          rw [P2] at hcall
          with_reducible refine hcall.mono ?_
          rintro e w' ⟨rfl, l5⟩
          refine ⟨_, rfl, ?_⟩
          have n1_ := Aside0.mk (G5.out.trans (grown_of_below0 l5 _))
          have n2_ : w.heap.size ≤ w'.heap.size := Nat.le_trans z5 l5.size
          refine hK.out _ _ ⟨hHeld.out.below l5⟩ (fun hHeld => ?_)
          clear G5 z5 hK K hcall l5
          have G5 := n1_
          have z5 := n2_
          clear n1_ n2_
          generalize w' = w6 at hHeld G5 z5 ⊢
          refine norm_ (a' := ?_) ?_ ?_
          rotate_left
          · show Act.put _ (some 63) _ = _
            simp only [Act.put, List.setIfInBounds_toArray, List.set_cons_zero, List.set_cons_succ, i64_w, i32_w]
            rfl
          refine pure_ (i := 10) (N := some 64) (v := ?_) (a' := ?_) #[true, true, true, true, true, true, true, true, true, true, true, false, false] rfl rfl (any_of HT_.out (by kernel_rfl)) (fun _ _ _ h => h) (Or.inl ⟨by rfl, ?_⟩) ?_ ?_
          rotate_left
          · intro w'
            go_simp
            with_reducible rfl
          rotate_left
          · simp only [Act.put, List.setIfInBounds_toArray, List.set_cons_zero, List.set_cons_succ, i64_w, i32_w]
            rfl
          refine pure_ (i := 11) (N := some 65) (v := ?_) (a' := ?_) #[true, true, true, true, true, true, true, true, true, true, true, true, false] rfl rfl (any_of HT_.out (by kernel_rfl)) (fun _ _ _ h => h) (Or.inl ⟨by rfl, ?_⟩) ?_ ?_
          rotate_left
          · intro w'
            go_simp
            with_reducible rfl
          rotate_left
          · simp only [Act.put, List.setIfInBounds_toArray, List.set_cons_zero, List.set_cons_succ, i64_w, i32_w]
            rfl
          refine last_ (i := 12) (N := none) #[true, true, true, true, true, true, true, true, true, true, true, true, true] rfl rfl (one_of HT_.out (by kernel_rfl)) (by decide) (fun K hK => ?_)
          refine step_store_mid rfl rfl _ _ _ rfl 1 (by rfl) (nums .u32 (throughW s' p2)) (by rfl) hHeld.out (by rw [hash_len _ _ _ _ S8 P2]; simp [nums, throughW_length]; omega) ((show _ = some 8 by kernel_rfl).trans (by simp [nums, throughW_length, S8])) oneCell_nums ?_
          intro w7 B7 g7 z7
          rw [hash_state _ _ _ _ _ (throughW_length _ _)] at B7
          replace B7 := Aside0.mk B7
          replace G5 := Aside0.mk (G5.out.trans g7)
          replace z5 : w.heap.size ≤ w7.heap.size := by omega
          refine hK.out _ _ ?_
          clear hK K hHeld g7 z7
          refine done_ (done_of HT_.out (by kernel_rfl)) ?_
          go_wp2
          exact ⟨⟨r2, A2, _, j + k, _, p2, rfl, hcl2, by omega, hdr, HR2, ⟨by rw [htk.out]; exact hstep.out k1⟩, ⟨by rw [show m.length + (j + k) = n + k by rw [hn.out]; omega]; exact B7.out⟩, ⟨G5.out⟩, z5⟩, by simp [slLen]; omega⟩
        · rw [if_neg hdone] at hstep
          have q1 : (((n : Int) + (k : Int)).tmod 64 = 0) = False := eq_false (by rw [Int.tmod_eq_emod_of_nonneg (by omega)]; omega)
          go_wp2
          have B4 : Aside0 (Bk (w3.setCell ⟨g, 73, none⟩ (.int .i64 ((n : Int) + (k : Int)))) g 67 (hashCells true s' p2 (n + k))) := ⟨by
            have h := B3.out.set 73 (.int .i64 ((n + k : Nat) : Int))
            rw [hash_set73 true s' p2 n (n + k) S8 P2] at h
            exact h⟩
          have G4 := Aside0.mk (G1.out.trans (grown_set w3 g 73 (.int .i64 ((n : Int) + (k : Int)))))
          exact ⟨⟨r2, A2, _, j + k, _, p2, rfl, hcl2, by omega, hdr, HR2, ⟨by rw [htk.out]; exact hstep.out⟩, ⟨by rw [show m.length + (j + k) = n + k by rw [hn.out]; omega]; exact B4.out⟩, ⟨G4.out⟩, by simp; omega⟩, by simp [slLen]; omega⟩
      · have hj2 : j = b.length := by omega
        have q0 : ((0 : Int) < (r.length : Int)) = False := eq_false (by omega)
        subst hj2
        rw [List.take_length] at HS0
        go_wp2
        go_ret
        exact ⟨rfl, ⟨s', p', by rw [List.length_append]; exact BK.out, HS0.out⟩, GR.out⟩
  | true =>
    have HS0 := Aside0.mk (hb1 rfl)
    have GR := Aside0.mk (World.grownBy.refl w (some g))
    have hsz : w.heap.size ≤ w.heap.size := Nat.le_refl _
    clear hb1 hb2
    go_enter Tryd.func47, Tryd.ntmps47
    go_wp2_with fail

    clear C0 F0
    go_loopw [1] (fun v wr => ∃ (r : List Int) (A' : Option Addr) (c' j : Nat) (s' p' : List Int), v = .slice A' r.length c' ∧ r.length ≤ c' ∧ j + r.length = b.length ∧ Aside0 (r = b.drop j) ∧ Aside0 (∀ W, w.grownBy W (some g) → ReadsOf (Value.int .u8) 0 W A' r.length r) ∧ Aside0 (HS (m ++ b.take j) s' p') ∧ Aside0 (Bk wr g 67 (hashCells true s' p' (m.length + j))) ∧ Aside0 (w.grownBy wr (some g)) ∧ w.heap.size ≤ wr.heap.size) (fun v _ => slLen v)
    case atStart => exact ⟨b, A, c, 0, _, _, rfl, hc, by omega, ⟨rfl⟩, HR, ⟨by simpa using HS0.out⟩, BK, GR, hsz⟩
    case round =>
      clear HS0 BK GR HR hsz
      obtain ⟨r, A', c', j, s', p', rfl, hc', hj, RJ, HR, HS0, BK, GR, hsz⟩ := hrel
      by_cases hpos : 0 < r.length
      · have q0 : ((0 : Int) < (r.length : Int)) = True := eq_true (by omega)
        have hz0 : r.length ≠ 0 := by omega
        obtain ⟨n, hn⟩ : ∃ n, n = m.length + j := ⟨_, rfl⟩
        rw [← hn] at BK
        have n1 : n ≤ 1099511627776 := by omega
        obtain ⟨o, ho⟩ : ∃ o, o = n % 64 := ⟨_, rfl⟩
        obtain ⟨k, hk⟩ : ∃ k, k = min r.length (64 - o) := ⟨_, rfl⟩
        have o1 : o < 64 := by omega
        have k1 : 0 < k := by omega
        have k2 : k ≤ r.length := by omega
        have k3 : o + k ≤ 64 := by omega
        have k4 := Aside0.mk (show k = Nat.min r.length (64 - o) from hk)
        have hrem : (n : Int).tmod 64 = (o : Int) := by rw [ho, Int.tmod_eq_emod_of_nonneg (by omega)]; rfl
        replace hn := Aside0.mk hn
        replace ho := Aside0.mk ho
        replace hk := Aside0.mk hk
        have S8 := HS0.out.s8
        have P64 := HS0.out.p64
        obtain ⟨ad, hA, hcell⟩ := (HR.out wr GR.out).2.2 hpos
        subst hA
        go_wp2
        refine start_ (n := 12) (S := fun w' => Aside0 (Bk w' g 67 (hashCells true s' p' n))) (ds := [10]) #[false, false, false, false, false, false, false, false, false, false, false, false] (by kernel_rfl) rfl rfl ⟨BK.out.drew⟩ (fun hHeld => ?_)
        refine with_tabW hash_write1.tab7 hash_write1.bits7 (fun HT_ HW_ => ?_)
        have G1 := Aside0.mk (GR.out.trans (grown_drew wr (some g)))
        have hcell1 : ∀ j, j < r.length → wr.drew.cell? (ad.add j) = some (.int .u8 (r.getD j 0)) := hcell
        have z1 : wr.drew.heap.size = wr.heap.size := rfl
        generalize wr.drew = w2 at G1 hHeld hcell1 z1 ⊢
        refine pure_ (i := 0) (N := some 26) (v := ?_) (a' := ?_) #[true, false, false, false, false, false, false, false, false, false, false, false] rfl rfl (any_of HT_.out (by kernel_rfl)) (fun _ _ _ h => h) (Or.inl ⟨by rfl, ?_⟩) ?_ ?_
        rotate_left
        · intro w'
          go_simp
          with_reducible rfl
        rotate_left
        · simp only [Act.put, List.setIfInBounds_toArray, List.set_cons_zero, List.set_cons_succ, i64_w, i32_w]
          rfl
        refine pure_ (i := 1) (N := some 27) (v := ?_) (a' := ?_) #[true, true, false, false, false, false, false, false, false, false, false, false] rfl rfl (any_of HT_.out (by kernel_rfl)) (fun _ _ _ h => h) (Or.inl ⟨by rfl, ?_⟩) ?_ ?_
        rotate_left
        · intro w'
          go_simp
          with_reducible rfl
        rotate_left
        · simp only [Act.put, List.setIfInBounds_toArray, List.set_cons_zero, List.set_cons_succ, i64_w, i32_w]
          rfl
        refine pure_ (i := 2) (N := some 28) (v := ?_) (a' := ?_) #[true, true, true, false, false, false, false, false, false, false, false, false] rfl rfl (any_of HT_.out (by kernel_rfl)) (fun _ _ _ h => h) (Or.inl ⟨by rfl, ?_⟩) ?_ ?_
        rotate_left
        · intro w'
          go_simp
          with_reducible rfl
        rotate_left
        · simp only [Act.put, List.setIfInBounds_toArray, List.set_cons_zero, List.set_cons_succ, i64_w, i32_w]
          rfl
        refine pure_ (i := 3) (N := some 29) (v := ?_) (a' := ?_) #[true, true, true, true, false, false, false, false, false, false, false, false] rfl rfl (any_of HT_.out (by kernel_rfl)) (fun _ _ _ h => h) (Or.inl ⟨by rfl, ?_⟩) ?_ ?_
        rotate_left
        · intro w'
          go_simp
          with_reducible rfl
        rotate_left
        · simp only [Act.put, List.setIfInBounds_toArray, List.set_cons_zero, List.set_cons_succ, i64_w, i32_w]
          rfl
        refine pure_ (i := 4) (N := some 30) (v := ?_) (a' := ?_) #[true, true, true, true, true, false, false, false, false, false, false, false] rfl rfl (any_of HT_.out (by kernel_rfl)) (fun _ _ _ h => h) (Or.inl ⟨by rfl, ?_⟩) ?_ ?_
        rotate_left
        · intro w'
          go_simp
          with_reducible rfl
        rotate_left
        · simp only [Act.put, List.setIfInBounds_toArray, List.set_cons_zero, List.set_cons_succ, i64_w, i32_w]
          rfl
        refine pure_ (i := 5) (N := some 31) (v := ?_) (a' := ?_) #[true, true, true, true, true, true, false, false, false, false, false, false] rfl rfl (any_of HT_.out (by kernel_rfl)) (fun _ _ _ h => h) (Or.inl ⟨by rfl, ?_⟩) ?_ ?_
        rotate_left
        · intro w'
          go_simp
          with_reducible rfl
        rotate_left
        · simp only [Act.put, List.setIfInBounds_toArray, List.set_cons_zero, List.set_cons_succ, i64_w, i32_w]
          rfl
        refine take_ (i := 6) (N := some 32) (v := ?_) (a' := ?_) #[true, true, true, true, true, true, true, false, false, false, false, false] rfl rfl (take_ofW HT_.out HW_.out (by kernel_rfl)) (fun _ _ _ h => h) (Or.inl ⟨by rfl, ?_⟩) hHeld ?_ ?_
        rotate_left
        · intro w' hS'
          have hc := (hS'.out.cell 73).trans (hash73 true s' p' n S8 P64)
          go_simp
          with_reducible rfl
        rotate_left
        · simp only [Act.put, List.setIfInBounds_toArray, List.set_cons_zero, List.set_cons_succ, i64_w, i32_w]
          rfl
        refine pure_ (i := 7) (N := some 33) (v := ?_) (a' := ?_) #[true, true, true, true, true, true, true, true, false, false, false, false] rfl rfl (any_of HT_.out (by kernel_rfl)) (fun _ _ _ h => h) (Or.inl ⟨by rfl, ?_⟩) ?_ ?_
        rotate_left
        · intro w'
          go_simp
          with_reducible rfl
        rotate_left
        · simp only [Act.put, List.setIfInBounds_toArray, List.set_cons_zero, List.set_cons_succ, i64_w, i32_w]
          rfl
        refine pure_ (i := 8) (N := some 34) (v := ?_) (a' := ?_) #[true, true, true, true, true, true, true, true, true, false, false, false] rfl rfl (any_of HT_.out (by kernel_rfl)) (fun _ _ _ h => h) (Or.inl ⟨by rfl, ?_⟩) ?_ ?_
        rotate_left
        · intro w'
          have hcut := slice_part w' g o o1
          go_simp
          with_reducible rfl
        rotate_left
        · simp only [Act.put, List.setIfInBounds_toArray, List.set_cons_zero, List.set_cons_succ, i64_w, i32_w]
          rfl
        refine pure_ (i := 9) (N := some 35) (v := ?_) (a' := ?_) #[true, true, true, true, true, true, true, true, true, true, false, false] rfl rfl (any_of HT_.out (by kernel_rfl)) (fun _ _ _ h => h) (Or.inl ⟨by rfl, ?_⟩) ?_ ?_
        rotate_left
        · intro w'
          go_simp
          with_reducible rfl
        rotate_left
        · simp only [Act.put, List.setIfInBounds_toArray, List.set_cons_zero, List.set_cons_succ, i64_w, i32_w]
          rfl
        refine last_ (i := 10) (N := some 36) #[true, true, true, true, true, true, true, true, true, true, true, false] rfl rfl (one_of HT_.out (by kernel_rfl)) (by decide) (fun K hK => ?_)
        refine step_copy rfl (.tmp 34) (.tmp 35) _ _ rfl 5 Tryd.underlying31 (by kernel_rfl) (9 + o) (64 - o) (64 - o) ad r.length c' (by rfl) (by rfl) hHeld.out (nums .u8 (r.take k)) k (by simp [nums]; omega) k4.out ?_ (by rw [hash_len _ _ _ _ S8 P64]; simp [nums]; omega) oneCell_nums ?_
        · intro i v hv
          rw [nums_getElem?] at hv
          have hi : i < r.length := by
            rcases Nat.lt_or_ge i r.length with h | h
            · exact h
            · rw [List.getElem?_eq_none (by simp; omega)] at hv; cases hv
          rw [hcell1 i hi, ← hv]
          have hik : i < k := by
            rcases Nat.lt_or_ge i k with h | h
            · exact h
            · rw [List.getElem?_eq_none (by simp; omega)] at hv; cases hv
          rw [List.getElem?_take_of_lt hik]
          simp [List.getD_eq_getElem?_getD, hi]
        intro w3 B3 g3 z3
        rw [hash_part _ _ _ _ _ _ S8 (by simp; omega)] at B3
        replace B3 := Aside0.mk B3
        replace G1 := Aside0.mk (G1.out.trans g3)
        have z3' : wr.heap.size ≤ w3.heap.size := by omega
        refine hK.out _ _ ?_
        clear hK K hHeld g3 z3 hcell1 z1
        refine pure_ (i := 11) (N := some 6) (v := ?_) (a' := ?_) #[true, true, true, true, true, true, true, true, true, true, true, true] rfl rfl (any_of HT_.out (by kernel_rfl)) (fun _ _ _ h => h) (Or.inl ⟨by rfl, ?_⟩) ?_ ?_
        rotate_left
        · intro w'
          go_simp
          with_reducible rfl
        rotate_left
        · simp only [Act.put, List.setIfInBounds_toArray, List.set_cons_zero, List.set_cons_succ, i64_w, i32_w]
          rfl
        refine done_ (done_of HT_.out (by kernel_rfl)) ?_
        clear hcell
        obtain ⟨p2, hp2⟩ : ∃ p2, p2 = splice p' o (r.take k) := ⟨_, rfl⟩
        rw [← hp2] at B3
        have P2 : p2.length = 64 := by rw [hp2, length_splice _ _ _ (by simp; omega)]; exact P64
        have F3 := B3.out.frozen 73
        have C3 : w3.cell? ⟨g, 73, none⟩ = some (.int .i64 n) := (B3.out.cell 73).trans (hash73 true s' p2 n S8 P2)
        obtain ⟨A2, hcut2, hrd2, hcl2⟩ := print_drop_of (P := Tryd.prog) (Value.int .u8) 0 31 5 .i64 Tryd.underlying31 hi0 hsz0 (some ad) c' r (k : Int) (by omega) (by omega) hc'
        simp only [Int.toNat_natCast] at hcut2 hrd2 hcl2
        have hrl : (r.drop k).length + k = r.length := by simp; omega
        have hdr := Aside0.mk (show r.drop k = b.drop (j + k) by rw [RJ.out, List.drop_drop])
        have htk := Aside0.mk (show m ++ b.take (j + k) = (m ++ b.take j) ++ r.take k by rw [RJ.out, List.append_assoc, List.take_add])
        have hml : (m ++ b.take j).length = n := by rw [hn.out]; simp; omega
        have hkl : (r.take k).length = k := by simp; omega
        have hstep := Aside0.mk (HS_step HS0.out (r.take k) (by rw [hml, hkl, ← ho.out]; exact k3))
        rw [hml, hkl, ← ho.out, ← hp2] at hstep
        have HR2 : Aside0 (∀ W, w.grownBy W (some g) → ReadsOf (Value.int .u8) 0 W A2 (r.drop k).length (r.drop k)) := ⟨fun W hW => hrd2 W (HR.out W hW)⟩
        clear hrd2 HR hml hkl RJ
        generalize hrk : r.drop k = r2 at *
        by_cases hdone : (n + k) % 64 = 0
        · rw [if_pos hdone] at hstep
          have q1 : ((n : Int) + (k : Int)).tmod 64 = 0 := by rw [Int.tmod_eq_emod_of_nonneg (by omega)]; omega
          go_wp2
          have B4 : Aside0 (Bk (w3.setCell ⟨g, 73, none⟩ (.int .i64 ((n : Int) + (k : Int)))) g 67 (hashCells true s' p2 (n + k))) := ⟨by
            have h := B3.out.set 73 (.int .i64 ((n + k : Nat) : Int))
            rw [hash_set73 true s' p2 n (n + k) S8 P2] at h
            exact h⟩
          have G4 := Aside0.mk (G1.out.trans (grown_set w3 g 73 (.int .i64 ((n : Int) + (k : Int)))))
          have z4 : w.heap.size ≤ (w3.setCell ⟨g, 73, none⟩ (.int .i64 ((n : Int) + (k : Int)))).heap.size := by simp; omega
          generalize World.setCell w3 _ _ = w4 at B4 G4 z4 ⊢
          clear C3 F3 G1 B3
          refine start_ (n := 13) (S := fun w' => Aside0 (Bk w' g 67 (hashCells true s' p2 (n + k)))) (ds := [12]) #[false, false, false, false, false, false, false, false, false, false, false, false, false] (by kernel_rfl) rfl rfl ⟨B4.out.drew⟩ (fun hHeld => ?_)
          refine with_tabW hash_write1.tab11 hash_write1.bits11 (fun HT_ HW_ => ?_)
          have G5 := Aside0.mk (G4.out.trans (grown_drew w4 (some g)))
          have z5 : w.heap.size ≤ w4.drew.heap.size := z4
          generalize World.drew w4 = w5 at G5 hHeld z5 ⊢
          refine pure_ (i := 0) (N := some 54) (v := ?_) (a' := ?_) #[true, false, false, false, false, false, false, false, false, false, false, false, false] rfl rfl (any_of HT_.out (by kernel_rfl)) (fun _ _ _ h => h) (Or.inl ⟨by rfl, ?_⟩) ?_ ?_
          rotate_left
          · intro w'
            go_simp
            with_reducible rfl
          rotate_left
          · simp only [Act.put, List.setIfInBounds_toArray, List.set_cons_zero, List.set_cons_succ, i64_w, i32_w]
            rfl
          refine pure_ (i := 1) (N := some 55) (v := ?_) (a' := ?_) #[true, true, false, false, false, false, false, false, false, false, false, false, false] rfl rfl (any_of HT_.out (by kernel_rfl)) (fun _ _ _ h => h) (Or.inl ⟨by rfl, ?_⟩) ?_ ?_
          rotate_left
          · intro w'
            go_simp
            with_reducible rfl
          rotate_left
          · simp only [Act.put, List.setIfInBounds_toArray, List.set_cons_zero, List.set_cons_succ, i64_w, i32_w]
            rfl
          refine pure_ (i := 2) (N := some 56) (v := ?_) (a' := ?_) #[true, true, true, false, false, false, false, false, false, false, false, false, false] rfl rfl (any_of HT_.out (by kernel_rfl)) (fun _ _ _ h => h) (Or.inl ⟨by rfl, ?_⟩) ?_ ?_
          rotate_left
          · intro w'
            go_simp
            with_reducible rfl
          rotate_left
          · simp only [Act.put, List.setIfInBounds_toArray, List.set_cons_zero, List.set_cons_succ, i64_w, i32_w]
            rfl
          refine pure_ (i := 3) (N := some 57) (v := ?_) (a' := ?_) #[true, true, true, true, false, false, false, false, false, false, false, false, false] rfl rfl (any_of HT_.out (by kernel_rfl)) (fun _ _ _ h => h) (Or.inl ⟨by rfl, ?_⟩) ?_ ?_
          rotate_left
          · intro w'
            go_simp
            with_reducible rfl
          rotate_left
          · simp only [Act.put, List.setIfInBounds_toArray, List.set_cons_zero, List.set_cons_succ, i64_w, i32_w]
            rfl
          refine take_ (i := 4) (N := some 58) (v := ?_) (a' := ?_) #[true, true, true, true, true, false, false, false, false, false, false, false, false] rfl rfl (take_ofW HT_.out HW_.out (by kernel_rfl)) (fun _ _ _ h => h) (Or.inl ⟨by rfl, ?_⟩) hHeld ?_ ?_
          rotate_left
          · intro w' hS'
            refine exec_load_mid (ty := 64) (x := .tmp 57) (cs := hashCells true s' p2 (n + k)) (off := 1) ?_ ?_ hS'.out (nums .u32 s') (fun i hi => hash_s true s' p2 _ S8 i hi) (.array 8 62) (by kernel_rfl) rfl ((show _ = some 8 by kernel_rfl).trans (by simp [nums, S8]))
            · rfl
            · rfl
          rotate_left
          · simp only [Act.put, List.setIfInBounds_toArray, List.set_cons_zero, List.set_cons_succ, i64_w, i32_w]
            rfl
          refine pure_ (i := 5) (N := some 59) (v := ?_) (a' := ?_) #[true, true, true, true, true, true, false, false, false, false, false, false, false] rfl rfl (any_of HT_.out (by kernel_rfl)) (fun _ _ _ h => h) (Or.inl ⟨by rfl, ?_⟩) ?_ ?_
          rotate_left
          · intro w'
            go_simp
            with_reducible rfl
          rotate_left
          · simp only [Act.put, List.setIfInBounds_toArray, List.set_cons_zero, List.set_cons_succ, i64_w, i32_w]
            rfl
          refine pure_ (i := 6) (N := some 60) (v := ?_) (a' := ?_) #[true, true, true, true, true, true, true, false, false, false, false, false, false] rfl rfl (any_of HT_.out (by kernel_rfl)) (fun _ _ _ h => h) (Or.inl ⟨by rfl, ?_⟩) ?_ ?_
          rotate_left
          · intro w'
            go_simp
            with_reducible rfl
          rotate_left
          · simp only [Act.put, List.setIfInBounds_toArray, List.set_cons_zero, List.set_cons_succ, i64_w, i32_w]
            rfl
          refine pure_ (i := 7) (N := some 61) (v := ?_) (a' := ?_) #[true, true, true, true, true, true, true, true, false, false, false, false, false] rfl rfl (any_of HT_.out (by kernel_rfl)) (fun _ _ _ h => h) (Or.inl ⟨by rfl, ?_⟩) ?_ ?_
          rotate_left
          · intro w'
            go_simp
            with_reducible rfl
          rotate_left
          · simp only [Act.put, List.setIfInBounds_toArray, List.set_cons_zero, List.set_cons_succ, i64_w, i32_w]
            rfl
          refine pure_ (i := 8) (N := some 62) (v := ?_) (a' := ?_) #[true, true, true, true, true, true, true, true, true, false, false, false, false] rfl rfl (any_of HT_.out (by kernel_rfl)) (fun _ _ _ h => h) (Or.inl ⟨by rfl, ?_⟩) ?_ ?_
          rotate_left
          · intro w'
            have hcut := slice_all w' g
            go_simp
            with_reducible rfl
          rotate_left
          · simp only [Act.put, List.setIfInBounds_toArray, List.set_cons_zero, List.set_cons_succ, i64_w, i32_w]
            rfl
          refine one_ (i := 9) (N := some 63) #[true, true, true, true, true, true, true, true, true, true, false, false, false] rfl rfl (one_of HT_.out (by kernel_rfl)) (by decide) (fun K hK => ?_)
          refine goes_ Tryd.func56 (by kernel_rfl) rfl #[.agg (nums .u32 s').toArray, .slice (some ⟨g, 9, none⟩) 64 64] (by rfl) rfl rfl (by (try simp only [List.map_toArray, List.map_cons, List.map_nil]); first | done | rfl) ?_
          have hcall := through_any (some ⟨g, 9, none⟩) 64 s' p2 w5 (hHeld.out.readsC 9 p2 (fun i hi => hash_p true s' p2 _ S8 i (by simpa [nums] using hi)) (by omega)) (by omega) P2 S8
          rw [P2] at hcall
          with_reducible refine hcall.mono ?_
          rintro e w' ⟨rfl, l5⟩
          refine ⟨_, rfl, ?_⟩
          have n1_ := Aside0.mk (G5.out.trans (grown_of_below0 l5 _))
          have n2_ : w.heap.size ≤ w'.heap.size := Nat.le_trans z5 l5.size
          refine hK.out _ _ ⟨hHeld.out.below l5⟩ (fun hHeld => ?_)
          clear G5 z5 hK K hcall l5
          have G5 := n1_
          have z5 := n2_
          clear n1_ n2_
          generalize w' = w6 at hHeld G5 z5 ⊢
          refine norm_ (a' := ?_) ?_ ?_
          rotate_left
          · show Act.put _ (some 63) _ = _
            simp only [Act.put, List.setIfInBounds_toArray, List.set_cons_zero, List.set_cons_succ, i64_w, i32_w]
            rfl
          refine pure_ (i := 10) (N := some 64) (v := ?_) (a' := ?_) #[true, true, true, true, true, true, true, true, true, true, true, false, false] rfl rfl (any_of HT_.out (by kernel_rfl)) (fun _ _ _ h => h) (Or.inl ⟨by rfl, ?_⟩) ?_ ?_
          rotate_left
          · intro w'
            go_simp
            with_reducible rfl
          rotate_left
          · simp only [Act.put, List.setIfInBounds_toArray, List.set_cons_zero, List.set_cons_succ, i64_w, i32_w]
            rfl
          refine pure_ (i := 11) (N := some 65) (v := ?_) (a' := ?_) #[true, true, true, true, true, true, true, true, true, true, true, true, false] rfl rfl (any_of HT_.out (by kernel_rfl)) (fun _ _ _ h => h) (Or.inl ⟨by rfl, ?_⟩) ?_ ?_
          rotate_left
          · intro w'
            go_simp
            with_reducible rfl
          rotate_left
          · simp only [Act.put, List.setIfInBounds_toArray, List.set_cons_zero, List.set_cons_succ, i64_w, i32_w]
            rfl
          refine last_ (i := 12) (N := none) #[true, true, true, true, true, true, true, true, true, true, true, true, true] rfl rfl (one_of HT_.out (by kernel_rfl)) (by decide) (fun K hK => ?_)
          refine step_store_mid rfl rfl _ _ _ rfl 1 (by rfl) (nums .u32 (throughW s' p2)) (by rfl) hHeld.out (by rw [hash_len _ _ _ _ S8 P2]; simp [nums, throughW_length]; omega) ((show _ = some 8 by kernel_rfl).trans (by simp [nums, throughW_length, S8])) oneCell_nums ?_
          intro w7 B7 g7 z7
          rw [hash_state _ _ _ _ _ (throughW_length _ _)] at B7
          replace B7 := Aside0.mk B7
          replace G5 := Aside0.mk (G5.out.trans g7)
          replace z5 : w.heap.size ≤ w7.heap.size := by omega
          refine hK.out _ _ ?_
          clear hK K hHeld g7 z7
          refine done_ (done_of HT_.out (by kernel_rfl)) ?_
          go_wp2
          exact ⟨⟨r2, A2, _, j + k, _, p2, rfl, hcl2, by omega, hdr, HR2, ⟨by rw [htk.out]; exact hstep.out k1⟩, ⟨by rw [show m.length + (j + k) = n + k by rw [hn.out]; omega]; exact B7.out⟩, ⟨G5.out⟩, z5⟩, by simp [slLen]; omega⟩
        · rw [if_neg hdone] at hstep
          have q1 : (((n : Int) + (k : Int)).tmod 64 = 0) = False := eq_false (by rw [Int.tmod_eq_emod_of_nonneg (by omega)]; omega)
          go_wp2
          have B4 : Aside0 (Bk (w3.setCell ⟨g, 73, none⟩ (.int .i64 ((n : Int) + (k : Int)))) g 67 (hashCells true s' p2 (n + k))) := ⟨by
            have h := B3.out.set 73 (.int .i64 ((n + k : Nat) : Int))
            rw [hash_set73 true s' p2 n (n + k) S8 P2] at h
            exact h⟩
          have G4 := Aside0.mk (G1.out.trans (grown_set w3 g 73 (.int .i64 ((n : Int) + (k : Int)))))
          exact ⟨⟨r2, A2, _, j + k, _, p2, rfl, hcl2, by omega, hdr, HR2, ⟨by rw [htk.out]; exact hstep.out⟩, ⟨by rw [show m.length + (j + k) = n + k by rw [hn.out]; omega]; exact B4.out⟩, ⟨G4.out⟩, by simp; omega⟩, by simp [slLen]; omega⟩
      · have hj2 : j = b.length := by omega
        have q0 : ((0 : Int) < (r.length : Int)) = False := eq_false (by omega)
        subst hj2
        rw [List.take_length] at HS0
        go_wp2
        go_ret
        exact ⟨rfl, ⟨s', p', by rw [List.length_append]; exact BK.out, HS0.out⟩, GR.out⟩
end Go.Proofs.YtgdogjnjbinoiaaDoor.Q
