/- What the calls of these Go functions answer (contracts): casketlaw17_awake. Each under the conditions that it states. -/
import Derived.Test.YtllaobhheokafaaC0
import Derived.Lib.SmallJoins
import Derived.Test.YtllaobhheokafaaFaea2
import Derived.Test.YtllaobhheokafaaCaead
import Derived.Test.YtllaobhheokafaaCref15w
import Derived.Test.YtllaobhheokafaaDaead
import Derived.Test.YtllaobhheokafaaDref15
namespace Go.Proofs.Ytllaobhheokafaa.Q
open Go.RowKit Go.Proofs.YtllaobhheokafaaW.PrintWords Go.Proofs.YtllaobhheokafaaW.PrintLast Go.Proofs.YtllaobhheokafaaW.PrintMore
attribute [local go_sem] max2_int min2_int max_two min_two max_three min_three max_four min_four   -- for this text's walks alone
set_option linter.unusedVariables false
set_option linter.unusedSimpArgs false

/-! ### casketlaw17_awake: function 33 -/
open Go.Proofs.Ytllaobhheokafaa.F Go.Joins
/-- A literal's bytes, behind the conversion. -/
theorem lit_readsC (w : World) (l : List Int) (t : TypeId) (fr : Nat × Nat) (hl : l.length ≤ 9223372036854775807) : Kd.C (Kd.int .u8) (w.alloc (.cells (nums .u8 l).toArray t fr)) (some ⟨w.heap.size, 0, none⟩) l.length l := by
  refine Kd.C_of_reads (enc := Value.int .u8) (d := (0 : Int)) (h1 := fun _ => rfl) ⟨rfl, hl, fun _ => ⟨_, rfl, fun j hj => ?_⟩⟩
  rw [Addr.add_mid, Nat.zero_add, cell_alloc_mark_at w _ t fr _ j rfl]
  simp [nums, List.getD_eq_getElem?_getD, hj]
theorem awake17_facts : ∃ (z s abc : List Int), z = List.replicate 32 0 ∧ z.length = 32 ∧ s.length = 19 ∧ abc = [97, 98, 99] ∧ abc.length = 3 ∧ aead_Seal.f 1 z (z.take 12) [] abc = some (s, 0) ∧ (∃ k, aead_Open.f k z (z.take 12) [] s = some (abc, 0)) ∧ (∃ k, aead_Open.f k z (z.take 12) [] (s.take 15) = some ([], 2)) ∧ (∃ k, casketlaw17_same.f k abc abc = some true) := by
  have habc : Bytes [97, 98, 99] := by
    have : ∀ x ∈ [97, 98, 99], (0 : Int) ≤ x ∧ x < 256 := by decide
    exact this
  refine ⟨_, sealW (List.replicate 32 0) ((List.replicate 32 (0 : Int)).take 12) [] [97, 98, 99], _, rfl, rfl, by rw [sealW_length]; rfl, rfl, rfl, seal_f 1 _ _ _ _ (by decide) (by decide) (by decide) (by decide) (fun x hx => by cases hx), ?_, ?_, ?_⟩
  · have := (open_ev (List.replicate 32 0) ((List.replicate 32 (0 : Int)).take 12) [] (sealW (List.replicate 32 0) ((List.replicate 32 (0 : Int)).take 12) [] [97, 98, 99]) (by decide) (by decide) (by decide) (by rw [sealW_length]; decide) (fun x hx => by cases hx) (sealW_bytes _ _ _ _)).rounds
    rw [open_seal _ _ _ _ habc] at this
    exact this
  · have := (open_ev (List.replicate 32 0) ((List.replicate 32 (0 : Int)).take 12) [] ((sealW (List.replicate 32 0) ((List.replicate 32 (0 : Int)).take 12) [] [97, 98, 99]).take 15) (by decide) (by decide) (by decide) (by rw [List.length_take, sealW_length]; decide) (fun x hx => by cases hx) (fun x hx => sealW_bytes _ _ _ _ x (List.mem_of_mem_take hx))).rounds
    rw [show openW (List.replicate 32 0) ((List.replicate 32 (0 : Int)).take 12) [] ((sealW (List.replicate 32 0) ((List.replicate 32 (0 : Int)).take 12) [] [97, 98, 99]).take 15) = ([], 2) by unfold openW; rw [if_pos (by rw [List.length_take]; omega)]] at this
    exact this
  · have := (same17_ev [97, 98, 99] [97, 98, 99] (by decide)).rounds
    rw [decide_eq_true rfl] at this
    exact this
def aead_awake4.T4 : Bool × List (List Nat × List Nat) := (true, [([], []), ([], []), ([1], [1]), ([], []), ([], []), ([4], [4]), ([5], [5]), ([3, 6], [3, 6]), ([0, 2, 7], [0, 2, 7]), ([8], [8]), ([9], [9]), ([9], [9]), ([10, 8, 0, 1, 2, 3, 4, 5, 6, 7, 8, 9, 10], [10]), ([11, 12, 0, 1, 2, 3, 4, 5, 6, 7, 8, 9, 10, 11, 12], [11])])
def aead_awake4.B4 : List Nat := [0, 0, 2, 0, 0, 16, 48, 120, 255, 511, 1023, 1023, 2047, 8191]
theorem aead_awake4.tab4 : rtab .any (opsOf Try.f33 4) = aead_awake4.T4 := by kernel_rfl
theorem aead_awake4.bits4 : waitsOk aead_awake4.T4.2 aead_awake4.B4 = true := by kernel_rfl
set_option maxHeartbeats 8000000 in
set_option maxRecDepth 100000 in
theorem awake17_any (w : World) : Calls Try.prog 33 #[] w fun e w' => e = .returned (.bool true) ∧ Below w.heap.size w w' := by
  obtain ⟨z, s, abc, hz, hzl, hsl, ha, hal, hseal, ⟨k1, hop1⟩, ⟨k2, hop2⟩, ⟨k3, hsame⟩⟩ := awake17_facts
  have HZ := Aside0.mk hz
  have HZL := Aside0.mk hzl
  have HSL := Aside0.mk hsl
  have HA := Aside0.mk ha
  have HAL := Aside0.mk hal
  have HSEAL := Aside0.mk hseal
  have HOP1 := Aside0.mk hop1
  have HOP2 := Aside0.mk hop2
  have HSAME := Aside0.mk hsame
  clear hz hzl hsl ha hal hseal hop1 hop2 hsame
  have hconv : ∀ W : World, (convert 28 28 (.slice (some ⟨W.heap.size, 0, none⟩) 3 3)).run Try.prog (W.alloc (.cells #[.int .u8 97, .int .u8 98, .int .u8 99] 5)) = .ok (.slice (some ⟨W.heap.size, 0, none⟩) 3 3) (W.alloc (.cells #[.int .u8 97, .int .u8 98, .int .u8 99] 5 (3, 4))) := fun W => run_convert_bytes_const_at (P := Try.prog) W 28 5 #[.int .u8 97, .int .u8 98, .int .u8 99] 3 3 W.heap.size rfl (by kernel_rfl) (by kernel_rfl)
  have hlit : ∀ W : World, Kd.C (Kd.int .u8) (W.alloc (.cells #[.int .u8 97, .int .u8 98, .int .u8 99] 5 (3, 4))) (some ⟨W.heap.size, 0, none⟩) abc.length abc := fun W => by
    have := lit_readsC W abc 5 (3, 4) (by rw [HAL.out]; decide)
    rw [HA.out] at this ⊢
    exact this
  replace hlit := Aside0.mk hlit
  go_enter Try.func33, Try.ntmps33
  go_wp2_with ((with_reducible refine gate_dst (N := 8) rfl ?_); go_loud (refine Kd.R_make (Kd.int .u8) _ 5 rfl (N := 8) rfl 28 _ _ rfl 32 rfl rfl Try.underlying28 (.int .u8 0) 1 info5 rfl (by decide) (by omega) 0 (ok := fun _ => True) (okp := fun _ => True) rfl (fun _ hk => hk) trivial (by omega) (by omega) (Below.refl _ _) (Nat.le_refl _) ?_; intro v1 w1 ho1 hb1 hg1 hnew1; have HO1 := Aside0.mk (show Kd.R (Kd.int .u8) 5 w1 w.heap.size (fun _ => True) v1 (List.replicate 32 (0 : Int)) from ho1); have HB1 := Aside0.mk hb1; clear ho1 hb1 hg1 hnew1; rw [← HZ.out] at HO1; obtain ⟨A1, c1, eo1⟩ := Kd.R_slice HO1.out; subst eo1; have HQ1 := Aside0.mk (Kd.R_reads' HO1.out); clear HO1; obtain ⟨i0, hi0, _, hsz0, _⟩ := info_parts info5; obtain ⟨hcut, hA, hCt⟩ := print_take_of (P := Try.prog) (Value.int .u8) 0 28 5 .i64 Try.underlying28 hi0 hsz0 A1 c1 z 12 (by decide) (by have := HZL.out; omega) HQ1.out.2.1; have HT := Aside0.mk (Kd.C_of_reads (h1 := fun _ => rfl) (hA _ (Kd.reads_of_C HQ1.out.2.2))); have HTc := Aside0.mk hCt; clear hA hCt hi0 hsz0))
  obtain ⟨W2, hW2⟩ : ∃ W2, W2 = w1.alloc (.cells #[.int .u8 97, .int .u8 98, .int .u8 99] 5 (3, 4)) := ⟨_, rfl⟩
  have HB2 : Below w.heap.size w W2 := by rw [hW2]; exact below_alloc HB1.out _
  have HL2 : Kd.C (Kd.int .u8) W2 (some ⟨w1.heap.size, 0, none⟩) abc.length abc := by rw [hW2]; exact hlit.out w1
  have HK2 : Kd.C (Kd.int .u8) W2 A1 z.length z := by rw [hW2]; exact Kd.C_alloc HQ1.out.2.2 _
  have HN2 : Kd.C (Kd.int .u8) W2 A1 (z.take 12).length (z.take 12) := by rw [hW2]; exact Kd.C_alloc HT.out _
  have hcz : z.length ≤ c1 := HQ1.out.2.1
  have hc12 : (z.take 12).length ≤ c1 := HTc.out
  have e12 : min 12 z.length = (z.take 12).length := List.length_take.symm
  have hcall := aead_Seal.calls 1 A1 c1 z A1 c1 (z.take 12) none 0 [] (some ⟨w1.heap.size, 0, none⟩) 3 abc s 0 W2 HK2 hcz HN2 hc12 (Kd.C_nil _ _) (Nat.le_refl _) HL2 (by rw [HAL.out]; decide) HSEAL.out
  rw [HAL.out] at hcall
  rw [← hW2, e12]
  refine hcall.mono ?_
  clear hcall HL2 e12
  rintro e w3 ⟨v3, rfl, ho3, hb3⟩
  have HB3 := Aside0.mk (below_step HB2 hb3)
  have HK3 := Aside0.mk (Kd.C_below HK2 hb3)
  have HN3 := Aside0.mk (Kd.C_below HN2 hb3)
  have HCZ := Aside0.mk hcz
  have HC12 := Aside0.mk hc12
  obtain ⟨A3, c3, eo3⟩ := Kd.R_slice ho3
  subst eo3
  have HS3 := Aside0.mk (Kd.R_reads' ho3)
  clear ho3 hb3 HB2 HK2 HN2 hcz hc12 hW2 HB1 HQ1 HT HTc
  go_wp2_with fail
  have e12 : min 12 z.length = (z.take 12).length := List.length_take.symm
  rw [e12]
  refine (aead_Open.calls k1 A1 c1 z A1 c1 (z.take 12) none 0 [] A3 c3 s abc 0 w3 HK3.out HCZ.out HN3.out HC12.out (Kd.C_nil _ _) (Nat.le_refl _) HS3.out.2.2 HS3.out.2.1 HOP1.out).mono ?_
  rintro e w4 ⟨v4, rfl, ho4, hb4⟩
  have HB4 := Aside0.mk (below_step HB3.out hb4)
  have HK4 := Aside0.mk (Kd.C_below HK3.out hb4)
  have HN4 := Aside0.mk (Kd.C_below HN3.out hb4)
  have HS4 := Aside0.mk (Kd.C_below HS3.out.2.2 hb4)
  have HSC := Aside0.mk HS3.out.2.1
  obtain ⟨A4, c4, eo4⟩ := Kd.R_slice ho4
  subst eo4
  have HP4 := Aside0.mk (Kd.R_reads' ho4).2.2
  have HPC := Aside0.mk (Kd.R_reads' ho4).2.1
  clear ho4 hb4 HB3 HK3 HN3 HS3 e12
  go_wp2_with fail
  obtain ⟨i0, hi0, _, hsz0, _⟩ := info_parts info5
  have hsl := HSL.out
  have hcut15 : ∀ W : World, (Instr.slice 28 (.slice A3 19 c3) none (some (.int .i64 15)) none).run Try.prog W = .ok (.slice A3 15 c3) W := cut_to (P := Try.prog) 28 5 .i64 Try.underlying28 hi0 A3 19 c3 15 (by decide) (by decide) (by have := HSC.out; omega)
  rw [hsl]
  clear hi0 hsz0 hsl
  refine start_ (n := 14) (S := fun W => True) (ds := []) #[false, false, false, false, false, false, false, false, false, false, false, false, false, false] (by kernel_rfl) rfl rfl trivial (fun hHeld => ?_)
  refine with_tabW aead_awake4.tab4 aead_awake4.bits4 (fun HT_ HW_ => ?_)
  have HB5 := Aside0.mk (below_drew HB4.out)
  have HK5 := Aside0.mk (Kd.C_drew HK4.out)
  have HN5 := Aside0.mk (Kd.C_drew HN4.out)
  have HS5 := Aside0.mk (Kd.C_drew HS4.out)
  have HP5 := Aside0.mk (Kd.C_drew HP4.out)
  clear HB4 HK4 HN4 HS4 HP4
  generalize w4.drew = w5 at HB5 HK5 HN5 HS5 HP5 hHeld ⊢
  refine pure_ (i := 0) (N := some 27) (v := ?_) (a' := ?_) #[true, false, false, false, false, false, false, false, false, false, false, false, false, false] rfl rfl (any_of HT_.out (by kernel_rfl)) (fun _ _ _ h => h) (Or.inl ⟨by rfl, ?_⟩) ?_ ?_
  rotate_left
  · intro w'
    go_simp
    with_reducible rfl
  rotate_left
  · simp only [Act.put, List.setIfInBounds_toArray, List.set_cons_zero, List.set_cons_succ, i64_w, i32_w]
    rfl
  refine pure_ (i := 1) (N := some 28) (v := ?_) (a' := ?_) #[true, true, false, false, false, false, false, false, false, false, false, false, false, false] rfl rfl (any_of HT_.out (by kernel_rfl)) (fun _ _ _ h => h) (Or.inl ⟨by rfl, ?_⟩) ?_ ?_
  rotate_left
  · intro w'
    go_simp
    with_reducible rfl
  rotate_left
  · simp only [Act.put, List.setIfInBounds_toArray, List.set_cons_zero, List.set_cons_succ, i64_w, i32_w]
    rfl
  refine pure_ (i := 2) (N := some 29) (v := ?_) (a' := ?_) #[true, true, true, false, false, false, false, false, false, false, false, false, false, false] rfl rfl (any_of HT_.out (by kernel_rfl)) (fun _ _ _ h => h) (Or.inl ⟨by rfl, ?_⟩) ?_ ?_
  rotate_left
  · intro w'
    go_simp
    with_reducible rfl
  rotate_left
  · simp only [Act.put, List.setIfInBounds_toArray, List.set_cons_zero, List.set_cons_succ, i64_w, i32_w]
    rfl
  refine pure_ (i := 3) (N := some 30) (v := ?_) (a' := ?_) #[true, true, true, true, false, false, false, false, false, false, false, false, false, false] rfl rfl (any_of HT_.out (by kernel_rfl)) (fun _ _ _ h => h) (Or.inl ⟨by rfl, ?_⟩) ?_ ?_
  rotate_left
  · intro w'
    go_simp
    with_reducible rfl
  rotate_left
  · simp only [Act.put, List.setIfInBounds_toArray, List.set_cons_zero, List.set_cons_succ, i64_w, i32_w]
    rfl
  refine pure_ (i := 4) (N := some 31) (v := ?_) (a' := ?_) #[true, true, true, true, true, false, false, false, false, false, false, false, false, false] rfl rfl (any_of HT_.out (by kernel_rfl)) (fun _ _ _ h => h) (Or.inl ⟨by rfl, ?_⟩) ?_ ?_
  rotate_left
  · intro w'
    go_simp
    with_reducible rfl
  rotate_left
  · simp only [Act.put, List.setIfInBounds_toArray, List.set_cons_zero, List.set_cons_succ, i64_w, i32_w]
    rfl
  refine pure_ (i := 5) (N := some 32) (v := ?_) (a' := ?_) #[true, true, true, true, true, true, false, false, false, false, false, false, false, false] rfl rfl (any_of HT_.out (by kernel_rfl)) (fun _ _ _ h => h) (Or.inl ⟨by rfl, ?_⟩) ?_ ?_
  rotate_left
  · intro w'
    go_simp
    with_reducible rfl
  rotate_left
  · simp only [Act.put, List.setIfInBounds_toArray, List.set_cons_zero, List.set_cons_succ, i64_w, i32_w]
    rfl
  refine pure_ (i := 6) (N := some 33) (v := ?_) (a' := ?_) #[true, true, true, true, true, true, true, false, false, false, false, false, false, false] rfl rfl (any_of HT_.out (by kernel_rfl)) (fun _ _ _ h => h) (Or.inl ⟨by rfl, ?_⟩) ?_ ?_
  rotate_left
  · intro w'
    go_simp
    with_reducible rfl
  rotate_left
  · simp only [Act.put, List.setIfInBounds_toArray, List.set_cons_zero, List.set_cons_succ, i64_w, i32_w]
    rfl
  refine pure_ (i := 7) (N := some 34) (v := ?_) (a' := ?_) #[true, true, true, true, true, true, true, true, false, false, false, false, false, false] rfl rfl (any_of HT_.out (by kernel_rfl)) (fun _ _ _ h => h) (Or.inl ⟨by rfl, ?_⟩) ?_ ?_
  rotate_left
  · intro w'
    go_simp
    with_reducible rfl
  rotate_left
  · simp only [Act.put, List.setIfInBounds_toArray, List.set_cons_zero, List.set_cons_succ, i64_w, i32_w]
    rfl
  refine one_ (i := 8) (N := some 35) #[true, true, true, true, true, true, true, true, true, false, false, false, false, false] rfl rfl (one_of HT_.out (by kernel_rfl)) (by decide) (fun K hK => ?_)
  refine goes_ Try.func37 (by kernel_rfl) rfl #[.slice A1 z.length c1, .slice A1 (min 12 z.length) c1, .slice none 0 0, .slice A3 15 c3] (by rfl) rfl rfl (by (try simp only [List.map_toArray, List.map_cons, List.map_nil]); first | done | rfl) ?_
  have e15 : (s.take 15).length = 15 := by rw [List.length_take, HSL.out]; rfl
  have hcall := aead_Open.calls k2 A1 c1 z A1 c1 (z.take 12) none 0 [] A3 c3 (s.take 15) [] 2 w5 HK5.out HCZ.out HN5.out HC12.out (Kd.C_nil _ _) (Nat.le_refl _) (Kd.C_take HS5.out (by rw [HSL.out]; decide)) (by have := HSC.out; rw [e15]; have := HSL.out; omega) HOP2.out
  rw [e15, show (z.take 12).length = min 12 z.length from List.length_take] at hcall
  refine hcall.mono ?_
  clear hcall e15
  rintro e w' ⟨v6, rfl, ho6, hb6⟩
  refine ⟨_, rfl, ?_⟩
  have n1_ := Aside0.mk (below_step HB5.out hb6)
  have n2_ := Aside0.mk (Kd.C_below HP5.out hb6)
  refine hK.out _ _ trivial (fun hHeld => ?_)
  clear hK K ho6 hb6 HB5 HP5 HK5 HN5 HS5
  refine norm_ (a' := ?_) ?_ ?_
  rotate_left
  · show Act.put _ (some 35) _ = _
    simp only [Act.put, List.setIfInBounds_toArray, List.set_cons_zero, List.set_cons_succ, i64_w, i32_w]
    rfl
  refine pure_ (i := 9) (N := some 26) (v := ?_) (a' := ?_) #[true, true, true, true, true, true, true, true, true, true, false, false, false, false] rfl rfl (any_of HT_.out (by kernel_rfl)) (fun _ _ _ h => h) (Or.inl ⟨by rfl, ?_⟩) ?_ ?_
  rotate_left
  · intro w'
    go_simp
    with_reducible rfl
  rotate_left
  · simp only [Act.put, List.setIfInBounds_toArray, List.set_cons_zero, List.set_cons_succ, i64_w, i32_w]
    rfl
  refine pure_ (i := 10) (N := some 36) (v := ?_) (a' := ?_) #[true, true, true, true, true, true, true, true, true, true, true, false, false, false] rfl rfl (any_of HT_.out (by kernel_rfl)) (fun _ _ _ h => h) (Or.inl ⟨by rfl, ?_⟩) ?_ ?_
  rotate_left
  · intro w'
    go_simp
    with_reducible rfl
  rotate_left
  · simp only [Act.put, List.setIfInBounds_toArray, List.set_cons_zero, List.set_cons_succ, i64_w, i32_w]
    rfl
  refine pure_ (i := 11) (N := some 37) (v := ?_) (a' := ?_) #[true, true, true, true, true, true, true, true, true, true, true, true, false, false] rfl rfl (any_of HT_.out (by kernel_rfl)) (fun _ _ _ h => h) (Or.inl ⟨by rfl, ?_⟩) ?_ ?_
  rotate_left
  · intro w'
    go_simp
    with_reducible rfl
  rotate_left
  · simp only [Act.put, List.setIfInBounds_toArray, List.set_cons_zero, List.set_cons_succ, i64_w, i32_w]
    rfl
  refine pure_ (i := 12) (N := some 6) (v := ?_) (a' := ?_) #[true, true, true, true, true, true, true, true, true, true, true, true, true, false] rfl rfl (any_of HT_.out (by kernel_rfl)) (fun _ _ _ h => h) (Or.inl ⟨by rfl, ?_⟩) ?_ ?_
  rotate_left
  · intro w'
    go_simp
    with_reducible rfl
  rotate_left
  · simp only [Act.put, List.setIfInBounds_toArray, List.set_cons_zero, List.set_cons_succ, i64_w, i32_w]
    rfl
  refine pure_ (i := 13) (N := some 7) (v := ?_) (a' := ?_) #[true, true, true, true, true, true, true, true, true, true, true, true, true, true] rfl rfl (any_of HT_.out (by kernel_rfl)) (fun _ _ _ h => h) (Or.inl ⟨by rfl, ?_⟩) ?_ ?_
  rotate_left
  · intro w'
    go_simp
    with_reducible rfl
  rotate_left
  · simp only [Act.put, List.setIfInBounds_toArray, List.set_cons_zero, List.set_cons_succ, i64_w, i32_w]
    rfl
  refine done_ (done_of HT_.out (by kernel_rfl)) ?_
  go_wp2_with fail
  have e3 := HAL.out
  have hcall := casketlaw17_same.calls k3 A4 c4 abc (some ⟨w'.heap.size, 0, none⟩) 3 abc true _ (Kd.C_alloc n2_.out _) HPC.out (hlit.out w') (by rw [e3]; decide) HSAME.out
  rw [e3] at hcall ⊢
  refine hcall.mono ?_
  clear hcall e3
  rintro e w8 ⟨rfl, ⟨nd, rfl⟩⟩
  go_wp2
  go_ret
  exact ⟨rfl, pw_below_drewN (below_alloc n1_.out _) nd⟩
theorem casketlaw17_awake.calls (k : Nat) (r : Bool) (w : World) (h : casketlaw17_awake.f k = some r) :
    Calls Try.prog 33 #[] w fun e w' => e = .returned (.bool r) ∧ Below w.heap.size w w' := by
  obtain ⟨K, hK⟩ := awake17
  have h1 := hK (max K k) (by omega)
  have h2 := at_rounds (fun j => casketlaw17_awake.mono j) (show k ≤ max K k by omega) h
  have h1' : casketlaw17_awake.f (max K k) = some true := h1
  rw [h2] at h1'
  obtain rfl := Option.some.inj h1'
  exact awake17_any w

end Go.Proofs.Ytllaobhheokafaa.Q
