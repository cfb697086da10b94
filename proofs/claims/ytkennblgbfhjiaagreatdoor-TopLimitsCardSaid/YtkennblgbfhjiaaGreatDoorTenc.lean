/- A manifest without entries, written and signed. -/
import Derived.Test.YtkennblgbfhjiaaGreatDoorTdec
import Derived.Test.YtkennblgbfhjiaaGreatDoorTgrow
import Derived.Lib.SmallJoins
namespace Go.Proofs.YtkennblgbfhjiaaGreatDoor.Q
open Go.RowKit Go.Proofs.YtkennblgbfhjiaaGreatDoorW.PrintWords Go.Proofs.YtkennblgbfhjiaaGreatDoorW.PrintLast Go.Proofs.YtkennblgbfhjiaaGreatDoorW.PrintMore Go.Proofs.YtkennblgbfhjiaaGreatDoor.F Go.Proofs.YtkennblgbfhjiaaGreatDoor.H
set_option linter.unusedVariables false
set_option linter.unusedSimpArgs false
theorem index_none (f : Value) (w : World) : Calls Tryz.prog 236 #[.slice none 0 0, f] w fun e w' => e = .returned (.int .i64 (-1)) ∧ w' = w := by
  go_enter Tryz.func236, Tryz.ntmps236
  go_wp2
  refine wp_loop_rounds 1 ?_
  rw [rounds_succ]
  go_wp2
  go_ret
  exact ⟨rfl, rfl⟩
theorem contains_none (f : Value) (w : World) : Calls Tryz.prog 185 #[.slice none 0 0, f] w fun e w' => e = .returned (.bool false) ∧ w' = w := by
  go_enter Tryz.func185, Tryz.ntmps185
  go_wp2_with fail
  refine (index_none _ _).mono ?_
  rintro e w1 ⟨rfl, hw⟩
  subst hw
  go_wp2
  go_ret
  exact ⟨rfl, rfl⟩
theorem mwrong_ok (Ap Ar : Option Addr) (cp cr : Nat) (w : World) : Calls Tryz.prog 134 #[.agg #[.int .u64 1, .slice Ap 32 cp, .slice none 0 0, .slice Ar 32 cr]] w fun e w' => e = .returned (.int .i64 0) ∧ Below w.heap.size w w' := by
  go_enter Tryz.func134, Tryz.ntmps134
  go_wp2
  refine wp_loop_rounds 1 ?_
  rw [rounds_succ]
  go_wp2_with fail
  refine (contains_none _ _).mono ?_
  rintro e w1 ⟨rfl, hw⟩
  subst hw
  go_wp2
  go_ret
  exact ⟨rfl, below_alloc (Below.refl _ _) _⟩
theorem varint_zero (l : List Int) (h : l.length ≤ 1000) : varint_Append.f 1 l 0 = some (l ++ [0]) := by
  have e : ¬ (0 : Int) ≥ 128 := by decide
  simp only [varint_Append.f, varint_Append.l0, varint_with.f, slices_Clone_byte_byte.f, if_neg e]
  rw [if_pos (by omega)]
  simp only [Option.bind_some, List.length_cons, List.length_nil]
  rw [if_pos (by omega)]
  rfl
set_option maxHeartbeats 1000000 in
set_option maxRecDepth 100000 in
theorem mencode_any (vp vr : Value) (p r : List Int) (w : World) (hp : SL w vp p) (hr : SL w vr r) (lp : p.length = 32) (lr : r.length = 32) :
    Calls Tryz.prog 87 #[.agg #[.int .u64 1, vp, .slice none 0 0, vr]] w fun e w' => ∃ v, e = .returned (.tuple #[v, .int .i64 0]) ∧ SL w' v (manB (fixN 1 8 8) p r) ∧ Below w.heap.size w w' := by
  obtain ⟨Ap, cp, rfl⟩ := hp.is
  obtain ⟨Ar, cr, rfl⟩ := hr.is
  rw [lp] at hp ⊢
  rw [lr] at hr ⊢
  have L1 := (Below.refl w.heap.size w).alloc (Nat.le_refl _) (.cells #[.int .u64 1, .slice Ap 32 cp, .slice none 0 0, .slice Ar 32 cr] 74)
  have B1 := Bk.at0 w 74 [.int .u64 1, .slice Ap 32 cp, .slice none 0 0, .slice Ar 32 cr] _ rfl
  have HP := Aside0.mk (hp.below L1)
  have HR := Aside0.mk (hr.below L1)
  have LP := Aside0.mk lp
  have LR := Aside0.mk lr
  replace L1 := Aside0.mk L1
  replace B1 := Aside0.mk B1
  clear hp hr lp lr
  go_enter Tryz.func87, Tryz.ntmps87
  go_wp2_with fail
  refine (mwrong_ok Ap Ar cp cr _).mono ?_
  rintro e w1 ⟨rfl, l1⟩
  have B2 := B1.out.below l1
  have P2 := Aside0.mk (HP.out.below l1)
  have R2 := Aside0.mk (HR.out.below l1)
  have L2 := Aside0.mk (below_then L1.out L1.out.size l1)
  have hc0 := B2.cell 0
  have hc1 := B2.cell 1
  have hc2 : w1.cell? ⟨w.heap.size, 2, none⟩ = some (.slice none 0 0) := B2.cell 2
  have hc3 := B2.cell 3
  replace B2 := Aside0.mk B2
  clear l1 B1 HP HR L1
  go_wp2_with fail
  refine (directory_none _).mono ?_
  rintro e w2 ⟨bm, rfl, l1⟩
  have B3 := B2.out.below l1
  have P3 := Aside0.mk (P2.out.below l1)
  have R3 := Aside0.mk (R2.out.below l1)
  have L3 := Aside0.mk (below_then L2.out L2.out.size l1)
  clear hc0 hc1 hc2 hc3
  have hc0 : w2.cell? ⟨w.heap.size, 0, none⟩ = some (.int .u64 1) := B3.cell 0
  have hc1 : w2.cell? ⟨w.heap.size, 1, none⟩ = some (.slice Ap 32 cp) := B3.cell 1
  have hc2 : w2.cell? ⟨w.heap.size, 2, none⟩ = some (.slice none 0 0) := B3.cell 2
  have hc3 : w2.cell? ⟨w.heap.size, 3, none⟩ = some (.slice Ar 32 cr) := B3.cell 3
  replace B3 := Aside0.mk B3
  clear l1 B2 P2 R2 L2
  have hlt2 := B3.out.lt
  have hconv := Go.Joins.run_convert_bytes_const_at (P := Tryz.prog) w2 25 5 #[.int .u8 67, .int .u8 83, .int .u8 75, .int .u8 49] 4 4 w2.heap.size rfl (by kernel_rfl) (by kernel_rfl)
  go_wp2_with fail
  have M4 := C_of_cells (w := w2.alloc (.cells #[.int .u8 67, .int .u8 83, .int .u8 75, .int .u8 49] 5 (4, 5))) (l := [67, 83, 75, 49]) (m := 4) (heap_alloc_new w2 _) rfl rfl (by decide)
  have l4 : Below w2.heap.size w2 (w2.alloc (.cells #[.int .u8 67, .int .u8 83, .int .u8 75, .int .u8 49] 5 (4, 5))) := below_alloc (Below.refl _ _) _
  clear hconv hc0 hc1 hc2 hc3 hlt2
  have hg2 : w.heap.size ≤ w2.heap.size := L3.out.size
  replace M4 := Aside0.mk M4
  replace l4 := Aside0.mk l4
  refine (cursor_Fix.calls 1 8 _ _ rfl).mono ?_
  rintro e w3 ⟨v3, rfl, R3', l5⟩
  have F3 := Aside0.mk (SL.of_R R3')
  have M5 := Aside0.mk (Kd.C_below M4.out l5)
  have l6 := below_then l4.out l4.out.size l5
  have L6 := Aside0.mk (below_then L3.out hg2 l6)
  have P6 := Aside0.mk (P3.out.below l6)
  have R6 := Aside0.mk (R3.out.below l6)
  have B6 := Aside0.mk (B3.out.below l6)
  have hz6 := L6.out.size
  obtain ⟨A3, c3, e3⟩ := F3.out.is
  rw [fixN_length] at e3
  subst e3
  clear R3' l5 l4 M4 l6 L3 P3 R3 B3 hg2
  go_wp2_with (first
    | ((with_reducible refine gate_builtin (b := .append) (xs := #[.tmp 24, .tmp 27]) rfl ?_); at_builtin; refine app_grow (A := some ⟨w2.heap.size, 0, none⟩) (n := 4) (B := A3) (m := 8) (c := c3) (l := [67, 83, 75, 49]) (ys := fixN 1 8 8) rfl _ _ 25 rfl Tryz.underlying25 info5 rfl M5.out (by decide) rfl F3.out.C (by decide) (by decide) ?_; intro v4 w4 ho hb; have O7 := Aside0.mk ho; have L7 := Aside0.mk hb; have hc1 : w4.cell? ⟨w.heap.size, 1, none⟩ = some (.slice Ap 32 cp) := (B6.out.below hb).cell 1; clear ho hb F3 M5)
    | ((with_reducible refine gate_builtin (b := .append) (xs := #[.tmp 29, .tmp 31]) rfl ?_); at_builtin; refine app_any (k := .u8) (l := [67, 83, 75, 49] ++ fixN 1 8 8) (base := w3.heap.size) (e := 5) (A := Ap) (c := cp) (m := 32) rfl _ _ 25 rfl Tryz.underlying25 1 info5 _ p rfl O7.out rfl (P6.out.below L7.out).C (by decide) (by simp [fixN_length]) L7.out.size ?_; intro v5 w5 h1 h2 h3; have L8 := Aside0.mk (L7.out.grown h2 L7.out.size (own_base O7.out.out)); have O8 := Aside0.mk h1; clear h1 h2 h3 hc1 O7 L7))
  obtain ⟨A8, c8, e8, hc8, S8⟩ := SL.of_R O8.out.toR
  have l8 : ([67, 83, 75, 49] ++ fixN 1 8 8 ++ p).length = 44 := by rw [List.length_append, LP.out]; rfl
  have HS8 := Aside0.mk S8
  have HC8 := Aside0.mk hc8
  have HL8 := Aside0.mk l8
  subst e8
  clear S8 hc8 l8 O8
  refine (varint_Append.calls 1 A8 c8 _ 0 _ _ HS8.out HC8.out (varint_zero _ (by rw [HL8.out]; omega))).mono ?_
  rintro e w6 ⟨v6, rfl, h1, h2⟩
  have O9 := Aside0.mk ((Own.ofR h1).lower (b2 := w3.heap.size) L8.out.size)
  have L9 := Aside0.mk (below_then L8.out L8.out.size h2)
  clear h1 h2 HS8 HC8 HL8 L8
  have hc2 : w6.cell? ⟨w.heap.size, 2, none⟩ = some (.slice none 0 0) := (B6.out.below L9.out).cell 2
  go_wp2_with fail
  refine wp_loop_rounds 1 ?_
  rw [rounds_succ]
  go_wp2_with fail
  refine (varint_Append.calls 1 none 0 [] 0 _ _ (Kd.C_nil _ _) (Nat.le_refl _) (varint_zero [] (by decide))).mono ?_
  rintro e w7 ⟨v7, rfl, h1, h2⟩
  obtain ⟨A7, c7, e7, hc7, S7⟩ := SL.of_R h1
  have Oa := Aside0.mk (own_below O9.out h2)
  have La := Aside0.mk (L9.out.trans (h2.mono L9.out.size))
  have HS7 := Aside0.mk S7
  have HL := Aside0.mk (show ([67, 83, 75, 49] ++ fixN 1 8 8 ++ p ++ [0]).length = 45 by simp [fixN_length, LP.out])
  have hc2' : w7.cell? ⟨w.heap.size, 2, none⟩ = some (.slice none 0 0) := (B6.out.below La.out).cell 2
  subst e7
  clear h1 h2 S7 hc7 hc2 O9 L9
  go_wp2_with ((with_reducible refine gate_builtin (b := .append) (xs := #[.tmp 50, .tmp 55]) rfl ?_); at_builtin; refine app_any (k := .u8) (l := [67, 83, 75, 49] ++ fixN 1 8 8 ++ p ++ [0]) (base := w3.heap.size) (e := 5) (A := A7) (c := c7) (m := 1) rfl _ _ 25 rfl Tryz.underlying25 1 info5 _ [0] rfl Oa.out rfl HS7.out (by decide) (by rw [HL.out]; decide) La.out.size ?_; intro v8 w8 h1 h2 h3; have Lb := Aside0.mk (La.out.grown h2 La.out.size (own_base Oa.out.out)); have Ob := Aside0.mk h1; have hc2 : w8.cell? ⟨w.heap.size, 2, none⟩ = some (.slice none 0 0) := (B6.out.below Lb.out).cell 2; have hc3 : w8.cell? ⟨w.heap.size, 3, none⟩ = some (.slice Ar 32 cr) := (B6.out.below Lb.out).cell 3; clear h1 h2 h3 hc2' Oa La HS7)
  refine wp_loop_rounds 1 ?_
  rw [rounds_succ]
  go_wp2_with ((with_reducible refine gate_builtin (b := .append) (xs := #[.tmp 79, .tmp 81]) rfl ?_); at_builtin; refine app_any (k := .u8) (l := [67, 83, 75, 49] ++ fixN 1 8 8 ++ p ++ [0] ++ [0]) (base := w3.heap.size) (e := 5) (A := Ar) (c := cr) (m := 32) rfl _ _ 25 rfl Tryz.underlying25 1 info5 _ r rfl Ob.out rfl (R6.out.below Lb.out).C (by decide) (by rw [List.length_append, HL.out]; decide) Lb.out.size ?_; intro v9 w9 h1 h2 h3; have Lc := Aside0.mk (Lb.out.grown h2 Lb.out.size (own_base Ob.out.out)); have Oc := Aside0.mk h1; clear h1 h2 h3 hc2 hc3 Ob Lb)
  go_ret2
  refine ⟨_, rfl, ?_, below_then L6.out hz6 Lc.out⟩
  have e : manB (fixN 1 8 8) p r = [67, 83, 75, 49] ++ fixN 1 8 8 ++ p ++ [0] ++ [0] ++ r := by simp [manB]
  rw [e]
  exact .of_R Oc.out.toR
end Go.Proofs.YtkennblgbfhjiaaGreatDoor.Q
