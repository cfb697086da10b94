/- An archive of nothing, opened. -/
import Derived.Test.YtkennblgbfhjiaaGreatDoorTbuild
namespace Go.Proofs.YtkennblgbfhjiaaGreatDoor.Q
open Go.RowKit Go.Proofs.YtkennblgbfhjiaaGreatDoorW.PrintWords Go.Proofs.YtkennblgbfhjiaaGreatDoorW.PrintLast Go.Proofs.YtkennblgbfhjiaaGreatDoorW.PrintMore Go.Proofs.YtkennblgbfhjiaaGreatDoor.F Go.Proofs.YtkennblgbfhjiaaGreatDoor.H
set_option linter.unusedVariables false
set_option linter.unusedSimpArgs false
theorem right_yes (A : Option Addr) (n c : Nat) (v : Int) (r : List Int) (w : World) (h : SL w (.slice A n c) r) (h0 : n = 32) :
    Calls Tryz.prog 31 #[.agg #[.int .u64 v, .slice A n c]] w fun e w' => e = .returned (.bool true) ∧ Below w.heap.size w w' := by
  obtain rfl := h.len
  refine archive_right.calls v A c r true w h.C h.cap ?_
  unfold archive_right.f
  rw [if_neg (by omega), h0]
  rfl
def open_root.T12 : Bool × List (List Nat × List Nat) := (true, [([], []), ([0], [0]), ([], []), ([2], [2]), ([1, 3, 1], [1, 3]), ([4], [4])])
def open_root.B12 : List Nat := [0, 1, 0, 4, 15, 31]
theorem open_root.tab12 : rtab .any (opsOf Tryz.f14 12) = open_root.T12 := by kernel_rfl
theorem open_root.bits12 : waitsOk open_root.T12.2 open_root.B12 = true := by kernel_rfl
set_option maxHeartbeats 4000000 in
set_option maxRecDepth 100000 in
theorem open_none (A As B : Option Addr) (c cs n d : Nat) (m : List Int) (w : World) (hA : SL w (.slice A 32 c) m) (hs : SL w (.slice As 32 cs) (shaW [])) (hB : SL w (.slice B n d) (110 :: signB m zeros32 (shaW []))) :
    Calls Tryz.prog 14 #[.slice A 32 c, .agg #[.int .u64 1, .slice As 32 cs], .slice B n d] w fun e w' => ∃ Ar cr, e = .returned (.tuple #[.slice none 0 0, .agg #[.int .u64 1, .slice Ar 32 cr], .int .i64 0]) ∧ Below w.heap.size w w' := by
  have B1 := (Bk.at0 w 43 [.int .u64 1, .slice As 32 cs] _ rfl).alloc (.cells #[.int .u64 0, .slice none 0 0] 43)
  have B2 := Bk.at0 (w.alloc (.cells #[.int .u64 1, .slice As 32 cs] 43)) 43 [.int .u64 0, .slice none 0 0] _ rfl
  have L0 : Below w.heap.size w ((w.alloc (.cells #[.int .u64 1, .slice As 32 cs] 43)).alloc (.cells #[.int .u64 0, .slice none 0 0] 43)) := below_alloc (below_alloc (Below.refl _ _) _) _
  simp only [World.size_alloc] at B2
  have HA := Aside0.mk (hA.below L0)
  have HS := Aside0.mk (hs.below L0)
  have HB := Aside0.mk (hB.below L0)
  replace B1 := Aside0.mk B1
  replace B2 := Aside0.mk B2
  replace L0 := Aside0.mk L0
  clear hA hs hB
  go_enter Tryz.func14, Tryz.ntmps14
  go_wp2_with fail
  refine (right_yes As 32 cs 1 _ _ HS.out rfl).mono ?_
  rintro e w1 ⟨rfl, l1⟩
  have B3 := Aside0.mk (B1.out.below l1)
  have B4 := Aside0.mk (B2.out.below l1)
  have A1 := Aside0.mk (HA.out.below l1)
  have S1 := Aside0.mk (HS.out.below l1)
  have D1 := Aside0.mk (HB.out.below l1)
  have L1 := Aside0.mk (below_then L0.out L0.out.size l1)
  clear l1 B1 B2 HA HS HB L0
  go_wp2_with fail
  refine (split_any B n d m zeros32 (shaW []) _ D1.out rfl shaW_32).mono ?_
  rintro e w2 ⟨vp, vr, vs, rfl, sp, sr, ss, l1⟩
  have hlt := (B4.out.below l1).lt
  have B5 := Aside0.mk (B3.out.below l1)
  have B6 := Aside0.mk (B4.out.below l1)
  have A2 := Aside0.mk (A1.out.below l1)
  have S2 := Aside0.mk (S1.out.below l1)
  have L2 := Aside0.mk (below_then L1.out L1.out.size l1)
  have G2 := Aside0.mk ss
  have P2 := Aside0.mk sp
  have R2 := Aside0.mk sr
  obtain ⟨Ap, cp, rfl⟩ := sp.is
  obtain ⟨Ar, cr, rfl⟩ := sr.is
  obtain ⟨Ag, cg, rfl⟩ := ss.is
  rw [signB_length m zeros32 (shaW []) rfl shaW_32] at G2 ⊢
  rw [shaW_32] at R2 ⊢
  clear l1 sp sr ss B3 B4 A1 S1 D1 L1
  go_wp2_with fail
  have l2 : Below w2.heap.size w2 (w2.alloc (.cells #[.int .u64 1, .slice Ap zeros32.length cp, .slice none 0 0, .slice Ar 32 cr] 74)) := below_alloc (Below.refl _ _) _
  have M3 := Bk.at0 w2 74 [.int .u64 1, .slice Ap zeros32.length cp, .slice none 0 0, .slice Ar 32 cr] _ rfl
  have B7 := B5.out.below l2
  have B8 := B6.out.below l2
  have A3 := A2.out.below l2
  have S3 := S2.out.below l2
  have G3 := G2.out.below l2
  have R3 := R2.out.below l2
  have L3 := below_then L2.out L2.out.size l2
  obtain ⟨mb, hmb⟩ : ∃ mb, mb = w2.heap.size := ⟨_, rfl⟩
  have hmw : w.heap.size + 1 < mb := by omega
  rw [← hmb] at M3 ⊢
  generalize w2.alloc (.cells #[.int .u64 1, .slice Ap zeros32.length cp, .slice none 0 0, .slice Ar 32 cr] 74) = w3 at M3 B7 B8 A3 S3 G3 R3 L3 ⊢
  clear l2 B5 B6 A2 S2 L2 G2 P2 R2 hlt hmb
  replace M3 := Aside0.mk M3
  replace B7 := Aside0.mk B7
  replace B8 := Aside0.mk B8
  replace A3 := Aside0.mk A3
  replace S3 := Aside0.mk S3
  replace G3 := Aside0.mk G3
  replace R3 := Aside0.mk R3
  replace L3 := Aside0.mk L3
  refine (mcheck_any A Ag c cg m zeros32 (shaW []) _ A3.out G3.out rfl shaW_32).mono ?_
  rintro e w4 ⟨Aq, nq, cq, Az, nz, cz, rfl, l1⟩
  have M4 := M3.out.below l1
  have B9 := B7.out.below l1
  have Ba := Aside0.mk (B8.out.below l1)
  have S4 := Aside0.mk (S3.out.below l1)
  have R4 := Aside0.mk (R3.out.below l1)
  have L4 := Aside0.mk (below_then L3.out L3.out.size l1)
  have hlm := M4.lt
  have hlb := B9.lt
  have hc0 : w4.cell? ⟨mb, 0, none⟩ = some (.int .u64 1) := M4.cell 0
  have hc1 : w4.cell? ⟨mb, 1, none⟩ = some (.slice Ap zeros32.length cp) := M4.cell 1
  have hc2 : w4.cell? ⟨mb, 2, none⟩ = some (.slice none 0 0) := M4.cell 2
  have hc3 : w4.cell? ⟨mb, 3, none⟩ = some (.slice Ar 32 cr) := M4.cell 3
  have hd0 : w4.cell? ⟨w.heap.size, 0, none⟩ = some (.int .u64 1) := B9.cell 0
  have hd1 : w4.cell? ⟨w.heap.size, 1, none⟩ = some (.slice As 32 cs) := B9.cell 1
  replace M4 := Aside0.mk M4
  replace B9 := Aside0.mk B9
  clear l1 M3 B7 B8 A3 S3 G3 R3 L3
  go_wp2_with fail
  have l2 : Below w4.heap.size w4 (w4.alloc (.cells #[.int .u64 1, .slice Aq nq cq, .slice none 0 0, .slice Az nz cz] 74)) := below_alloc (Below.refl _ _) _
  have M5 := M4.out.below l2
  have Bb := Ba.out.below l2
  have S5 := S4.out.below l2
  have R5 := R4.out.below l2
  have L5 := below_then L4.out L4.out.size l2
  clear hc0 hc1 hc2 hc3 hd0 hd1
  generalize w4.alloc (.cells #[.int .u64 1, .slice Aq nq cq, .slice none 0 0, .slice Az nz cz] 74) = w5 at M5 Bb S5 R5 L5 ⊢
  replace M5 := Aside0.mk M5
  replace Bb := Aside0.mk Bb
  replace S5 := Aside0.mk S5
  replace R5 := Aside0.mk R5
  replace L5 := Aside0.mk L5
  clear l2 M4 B9 Ba S4 R4 L4 hlm hlb
  refine (stale_same Ap Ar As _ cp cr cs (shaW []) _ R5.out S5.out (shaW_bytes [])).mono ?_
  rintro e w6 ⟨rfl, l1⟩
  have M6 := M5.out.below l1
  have Bc := Bb.out.below l1
  have R6 := R5.out.below l1
  have L6 := below_then L5.out L5.out.size l1
  clear l1 M5 Bb S5 R5 L5
  have hc0 : w6.cell? ⟨mb, 0, none⟩ = some (.int .u64 1) := M6.cell 0
  have hc2 : w6.cell? ⟨mb, 2, none⟩ = some (.slice none 0 0) := M6.cell 2
  have hc3 : w6.cell? ⟨mb, 3, none⟩ = some (.slice Ar 32 cr) := M6.cell 3
  replace M6 := Aside0.mk M6
  replace Bc := Aside0.mk Bc
  replace R6 := Aside0.mk R6
  replace L6 := Aside0.mk L6
  go_wp2_with fail
  refine start_ (n := 6) (S := fun w' => w'.cell? ⟨mb, 3, none⟩ = some (.slice Ar 32 cr)) (ds := []) #[false, false, false, false, false, false] (by kernel_rfl) rfl rfl hc3 (fun hHeld => ?_)
  refine with_tabW open_root.tab12 open_root.bits12 (fun HT_ HW_ => ?_)
  have ld := below_drew (Below.refl w6.heap.size w6)
  have M7 := Aside0.mk (M6.out.below ld)
  have Bd := Aside0.mk (Bc.out.below ld)
  have R7 := Aside0.mk (R6.out.below ld)
  have L7 := Aside0.mk (below_then L6.out L6.out.size ld)
  clear hc0 hc2 hc3 M6 Bc R6 L6 ld
  generalize w6.drew = w7 at M7 Bd R7 L7 hHeld ⊢
  refine pure_ (i := 0) (N := some 59) (v := ?_) (a' := ?_) #[true, false, false, false, false, false] rfl rfl (any_of HT_.out (by kernel_rfl)) (fun _ _ _ h => h) (Or.inl ⟨by rfl, ?_⟩) ?_ ?_
  rotate_left
  · intro w'
    go_simp
    with_reducible rfl
  rotate_left
  · simp only [Act.put, List.setIfInBounds_toArray, List.set_cons_zero, List.set_cons_succ, i64_w, i32_w]
    rfl
  refine pure_ (i := 2) (N := some 61) (v := ?_) (a' := ?_) #[true, false, true, false, false, false] rfl rfl (any_of HT_.out (by kernel_rfl)) (fun _ _ _ h => h) (Or.inl ⟨by rfl, ?_⟩) ?_ ?_
  rotate_left
  · intro w'
    go_simp
    with_reducible rfl
  rotate_left
  · simp only [Act.put, List.setIfInBounds_toArray, List.set_cons_zero, List.set_cons_succ, i64_w, i32_w]
    rfl
  refine take_ (i := 3) (N := some 62) (v := ?_) (a' := ?_) #[true, false, true, true, false, false] rfl rfl (take_ofW HT_.out HW_.out (by kernel_rfl)) (fun _ _ _ h => h) (Or.inl ⟨by rfl, ?_⟩) hHeld ?_ ?_
  rotate_left
  · intro w' hS'
    have hc := hS'
    go_simp
    with_reducible rfl
  rotate_left
  · simp only [Act.put, List.setIfInBounds_toArray, List.set_cons_zero, List.set_cons_succ, i64_w, i32_w]
    rfl
  refine one_ (i := 1) (N := some 60) #[true, true, true, true, false, false] rfl rfl (one_of HT_.out (by kernel_rfl)) (by decide) (fun K hK => ?_)
  refine goes_ Tryz.func35 (by kernel_rfl) rfl #[.slice none 0 0] (by rfl) rfl rfl (by (try simp only [List.map_toArray, List.map_cons, List.map_nil]); first | done | rfl) ?_
  with_reducible refine (rootof_none _).mono ?_
  rintro e w8 ⟨v8, rfl, s8, l8⟩
  refine ⟨_, rfl, ?_⟩
  have M8 := Aside0.mk (M7.out.below l8)
  have Be := Aside0.mk (Bd.out.below l8)
  have R8 := Aside0.mk (R7.out.below l8)
  have L8 := Aside0.mk (below_then L7.out L7.out.size l8)
  have S8 := Aside0.mk s8
  obtain ⟨A8, c8, rfl⟩ := s8.is
  refine hK.out _ _ (by exact M8.out.cell 3) (fun hHeld => ?_)
  clear hK K l8 s8 M7 Bd R7 L7
  refine norm_ (a' := ?_) ?_ ?_
  rotate_left
  · show Act.put _ (some 60) _ = _
    simp only [Act.put, List.setIfInBounds_toArray, List.set_cons_zero, List.set_cons_succ, i64_w, i32_w]
    rfl
  refine one_ (i := 4) (N := some 63) #[true, true, true, true, true, false] rfl rfl (one_of HT_.out (by kernel_rfl)) (by decide) (fun K hK => ?_)
  refine goes_ Tryz.func42 (by kernel_rfl) rfl #[.slice A8 (shaW []).length c8, .slice Ar 32 cr] (by rfl) rfl rfl (by (try simp only [List.map_toArray, List.map_cons, List.map_nil]); first | done | rfl) ?_
  with_reducible refine (same_yes A8 Ar _ c8 32 cr (shaW []) (shaW []) _ S8.out R8.out rfl (shaW_bytes []) (by rw [shaW_32]; decide)).mono ?_
  rintro e w9 ⟨rfl, l9⟩
  refine ⟨_, rfl, ?_⟩
  have M9 := Aside0.mk (M8.out.below l9)
  have Bf := Aside0.mk (Be.out.below l9)
  have R9 := Aside0.mk (R8.out.below l9)
  have L9 := Aside0.mk (below_then L8.out L8.out.size l9)
  refine hK.out _ _ (by exact M9.out.cell 3) (fun hHeld => ?_)
  clear hK K l9 S8 M8 Be R8 L8
  refine norm_ (a' := ?_) ?_ ?_
  rotate_left
  · show Act.put _ (some 63) _ = _
    simp only [Act.put, List.setIfInBounds_toArray, List.set_cons_zero, List.set_cons_succ, i64_w, i32_w]
    rfl
  refine pure_ (i := 5) (N := some 64) (v := ?_) (a' := ?_) #[true, true, true, true, true, true] rfl rfl (any_of HT_.out (by kernel_rfl)) (fun _ _ _ h => h) (Or.inl ⟨by rfl, ?_⟩) ?_ ?_
  rotate_left
  · intro w'
    go_simp
    with_reducible rfl
  rotate_left
  · simp only [Act.put, List.setIfInBounds_toArray, List.set_cons_zero, List.set_cons_succ, i64_w, i32_w]
    rfl
  refine done_ (done_of HT_.out (by kernel_rfl)) ?_
  have hc0 : w9.cell? ⟨mb, 0, none⟩ = some (.int .u64 1) := M9.out.cell 0
  have hc2 : w9.cell? ⟨mb, 2, none⟩ = some (.slice none 0 0) := M9.out.cell 2
  have hc3 : w9.cell? ⟨mb, 3, none⟩ = some (.slice Ar 32 cr) := M9.out.cell 3
  go_wp2
  refine wp_loop_rounds 1 ?_
  rw [rounds_succ]
  have hd0 : w9.cell? ⟨w.heap.size + 1, 0, none⟩ = some (.int .u64 0) := Bf.out.cell 0
  have hd1 : w9.cell? ⟨w.heap.size + 1, 1, none⟩ = some (.slice none 0 0) := Bf.out.cell 1
  have hg0 := Bf.out.frozen 0
  have hg1 := Bf.out.frozen 1
  clear hc2
  go_wp2_with fail
  go_region
  go_wp2
  clear hc0 hc3 hd0 hd1 hg0 hg1
  have B9 := (Bf.out.set 0 (.int .u64 1)).set 1 (.slice Ar 32 cr)
  have hw := grown_trans (grown_set w9 (w.heap.size + 1) 0 (.int .u64 1)) (grown_set _ (w.heap.size + 1) 1 (.slice Ar 32 cr))
  have L10 := L9.out.grown hw L9.out.size (fun k e => by have := Option.some.inj e; omega)
  generalize (w9.setCell ⟨w.heap.size + 1, 0, none⟩ (.int .u64 1)).setCell ⟨w.heap.size + 1, 1, none⟩ (.slice Ar 32 cr) = wx at B9 L10 ⊢
  have lx : Below wx.heap.size wx wx.drew := below_drew (Below.refl _ _)
  have Bx := B9.below lx
  have hc0 : wx.drew.cell? ⟨w.heap.size + 1, 0, none⟩ = some (.int .u64 1) := Bx.cell 0
  have hc1 : wx.drew.cell? ⟨w.heap.size + 1, 1, none⟩ = some (.slice Ar 32 cr) := Bx.cell 1
  have La := below_then L10 L10.size lx
  generalize wx.drew = wy at hc0 hc1 La ⊢
  exact bodyPost_ret (v := .tuple #[.slice none 0 0, .agg #[.int .u64 1, .slice Ar 32 cr], .int .i64 0]) (by simp [results, Tryz.results14, go_sem, hc0, hc1]) rfl ⟨_, _, rfl, La⟩
end Go.Proofs.YtkennblgbfhjiaaGreatDoor.Q
