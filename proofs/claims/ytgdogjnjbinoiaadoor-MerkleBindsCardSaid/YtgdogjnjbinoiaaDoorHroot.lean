/- The root of a list: what the program's stack of tops comes to. -/
import Derived.Test.YtgdogjnjbinoiaaDoorHjoin
import Derived.Test.YtgdogjnjbinoiaaDoorHclone
namespace Go.Proofs.YtgdogjnjbinoiaaDoor.Q
open Go.RowKit Go.Proofs.YtgdogjnjbinoiaaDoorW.PrintWords Go.Proofs.YtgdogjnjbinoiaaDoorW.PrintLast Go.Proofs.YtgdogjnjbinoiaaDoorW.PrintMore Go.Proofs.YtgdogjnjbinoiaaDoor.H
set_option linter.unusedVariables false
set_option linter.unusedSimpArgs false
/-- Put together so many times. -/
def joinsL : Nat → List (List Int) → List (List Int)
  | 0, ts => ts
  | k + 1, ts => joinsL k (joinL ts)
theorem joinsL_succ : ∀ (k : Nat) (ts : List (List Int)), joinsL (k + 1) ts = joinL (joinsL k ts)
  | 0, ts => rfl
  | k + 1, ts => by
    show joinsL (k + 1) (joinL ts) = joinL (joinsL k (joinL ts))
    rw [joinsL_succ k (joinL ts)]
theorem joinsL_length : ∀ (k : Nat) (ts : List (List Int)), k < ts.length → (joinsL k ts).length = ts.length - k
  | 0, ts, _ => by rw [joinsL]; omega
  | k + 1, ts, h => by
    have h1 := joinL_length ts (by omega)
    rw [joinsL, joinsL_length k (joinL ts) (by omega), h1]
    omega
/-- The tops behind the first k leaves. -/
def topsW (l : List (List Int)) : Nat → List (List Int)
  | 0 => []
  | k + 1 => joinsL (tz (k + 1)) (topsW l k ++ [rd_L1 l (k : Nat)])
/-- How many they are. -/
def lenN : Nat → Nat
  | 0 => 0
  | k + 1 => lenN k + 1 - tz (k + 1)
def lensOk : Nat → Nat → Nat → Bool
  | 0, _, _ => true
  | f + 1, k, n => decide (tz (k + 1) ≤ n) && lensOk f (k + 1) (n + 1 - tz (k + 1))
theorem lensOk_1000 : lensOk 1000 0 0 = true := by kernel_rfl
theorem lens_of : ∀ (f k : Nat), lensOk f k (lenN k) = true → ∀ j, j < f → tz (k + j + 1) ≤ lenN (k + j)
  | 0, k, _, j, hj => absurd hj (by omega)
  | f + 1, k, h, j, hj => by
    rw [lensOk, Bool.and_eq_true, decide_eq_true_eq] at h
    cases j with
    | zero => exact h.1
    | succ j =>
      have := lens_of f (k + 1) h.2 j (by omega)
      rw [show k + (j + 1) = k + 1 + j by omega]
      exact this
theorem tz_len (k : Nat) (h : k < 1000) : tz (k + 1) ≤ lenN k := by
  have := lens_of 1000 0 lensOk_1000 k h
  rw [Nat.zero_add] at this
  exact this
theorem topsW_length (l : List (List Int)) : ∀ k, k ≤ 1000 → (topsW l k).length = lenN k
  | 0, _ => rfl
  | k + 1, h => by
    have h1 := topsW_length l k (by omega)
    have h2 := tz_len k (by omega)
    rw [topsW, joinsL_length _ _ (by rw [List.length_append, h1]; simp only [List.length_cons, List.length_nil]; omega), List.length_append, h1]
    rfl
theorem lenN_le : ∀ k, lenN k ≤ k
  | 0 => Nat.le_refl _
  | k + 1 => by
    have := lenN_le k
    rw [lenN]
    omega
def Small (ts : List (List Int)) : Prop := ∀ x ∈ ts, x.length ≤ 1000000
theorem Small.join {ts : List (List Int)} (h : Small ts) : Small (joinL ts) := fun x hx => by
  rw [joinL, List.mem_append, List.mem_singleton] at hx
  rcases hx with hx | hx
  · exact h x (List.mem_of_mem_take hx)
  · rw [hx, nodeW, shaW_length]
    decide
theorem Small.joins : ∀ (k : Nat) {ts : List (List Int)}, Small ts → Small (joinsL k ts)
  | 0, ts, h => h
  | k + 1, ts, h => Small.joins k h.join
theorem small_rd {l : List (List Int)} (h : Small l) (i : Int) : (rd_L1 l i).length ≤ 1000000 := by
  rw [rd_L1, List.getD_eq_getElem?_getD]
  rcases Nat.lt_or_ge i.toNat l.length with h1 | h1
  · rw [List.getElem?_eq_getElem h1]
    exact h _ (List.getElem_mem h1)
  · rw [List.getElem?_eq_none h1]
    simp
theorem topsW_small {l : List (List Int)} (h : Small l) : ∀ k, Small (topsW l k)
  | 0 => fun x hx => by cases hx
  | k + 1 => Small.joins _ (fun x hx => by
    rw [List.mem_append, List.mem_singleton] at hx
    rcases hx with hx | hx
    · exact topsW_small h k x hx
    · rw [hx]; exact small_rd h _)
/-- The root as the program makes it. -/
def rootW (l : List (List Int)) : List Int := if l.length = 0 then shaW [] else rd_L1 (joinsL ((topsW l l.length).length - 1) (topsW l l.length)) 0
def root_push.T8 : Bool × List (List Nat × List Nat) := (true, [([], []), ([], []), ([1], [1]), ([2], [2]), ([0, 3, 2], [0, 3]), ([4, 4, 0, 1, 2, 3, 4], [4])])
def root_push.B8 : List Nat := [0, 0, 2, 6, 15, 31]
theorem root_push.tab8 : rtab .any (opsOf Tryd.f16 8) = root_push.T8 := by kernel_rfl
theorem root_push.bits8 : waitsOk root_push.T8.2 root_push.B8 = true := by kernel_rfl
set_option maxHeartbeats 2000000 in
set_option maxRecDepth 100000 in
theorem root_any (A0 : Option Addr) (c0 : Nat) (l0 : List (List Int)) (w : World) (hr0 : Kd.C (Kd.slice 5 (Kd.int .u8)) w A0 l0.length l0) (hc0 : l0.length ≤ c0) (hn : l0.length ≤ 1000) (hs : Small l0) (ht : TabAt w) :
    Calls Tryd.prog 16 #[.slice A0 l0.length c0] w fun e w' => ∃ v, e = .returned v ∧ Kd.R (Kd.int .u8) 5 w' w.heap.size (fun _ => True) v (rootW l0) ∧ Below w.heap.size w w' := by
  have HR := Aside0.mk hr0
  have HS := Aside0.mk hs
  have HT := Aside0.mk ht
  clear hr0 hs ht
  have hmf : ∀ (fn : Fn) (first cap : Array Value) (w : World), (Instr.makeFunc fn first cap).run Tryd.prog w = .ok (.func fn first cap) w := fun _ _ _ _ => rfl
  go_enter Tryd.func16, Tryd.ntmps16
  by_cases h0 : l0.length = 0
  · have q0 : (((l0.length : Nat) : Int) == 0) = true := by simp; exact List.length_eq_zero_iff.1 h0
    go_wp2_with fail
    refine (sum_any none 0 [] _ (Kd.C_of_reads (enc := Value.int .u8) (d := (0 : Int)) (h1 := fun _ => rfl) ⟨rfl, by decide, fun h => by cases h⟩) (by decide) (by decide)).mono ?_
    rintro e w2 ⟨v, rfl, O2, l2⟩
    go_wp2
    go_ret
    refine ⟨v, rfl, ?_, l2⟩
    rw [rootW, if_pos h0]
    exact O2.toR
  · have q0 : (((l0.length : Nat) : Int) == 0) = false := by simp; intro h; rw [h] at h0; exact h0 rfl
    have T0 := Aside0.mk (show Tops (w.alloc (.cells #[.slice none 0 0] 22)) w.heap.size (topsW l0 0) from ⟨⟨_, heap_alloc_new w _, Kd.R_nil _ _ _ _ _⟩⟩)
    have L0 := Aside0.mk ((Below.refl w.heap.size w).alloc (Nat.le_refl _) (.cells #[.slice none 0 0] 22))
    go_wp2
    go_loopw [14] (fun v14 wr => ∃ i : Nat, v14 = .int .i64 i ∧ i ≤ l0.length ∧ Aside0 (Tops wr w.heap.size (topsW l0 i)) ∧ Aside0 (Below w.heap.size w wr)) (fun v14 _ => l0.length + 1 - (intOf v14).toNat)
    case atStart => exact ⟨0, rfl, Nat.zero_le _, T0, L0⟩
    case round =>
      clear T0 L0 q0
      obtain ⟨i, rfl, hi, T1, L1⟩ := hrel
      by_cases hlt : i < l0.length
      · have p0 : (0 ≤ (i : Int)) = True := eq_true (by omega)
        have q0 : ((i : Int) < (l0.length : Int)) = True := eq_true (by omega)
        obtain ⟨ad, Ar, cr, hAd, hx, hcr, hrr⟩ := at_L1 HR.out (i : Int) (by omega) (by omega)
        subst hAd
        rw [Int.toNat_natCast] at hx
        replace hx := (L1.out.cell (World.block_lt_of_cell? w _ hx)).trans hx
        have hrl := small_rd HS.out (i : Nat)
        have hnext := Aside0.mk (show topsW l0 (i + 1) = joinsL (tz (i + 1)) (topsW l0 i ++ [rd_L1 l0 (i : Nat)]) from rfl)
        have hsm := Aside0.mk (topsW_small HS.out i)
        have hlen := topsW_length l0 i (by omega)
        have htz := tz_len i (by omega)
        have hln := lenN_le i
        have htl : (topsW l0 i).length ≤ 1000 := by omega
        replace hlen := Aside0.mk hlen
        obtain ⟨row, hrow⟩ : ∃ row, row = rd_L1 l0 (i : Nat) := ⟨_, rfl⟩
        rw [← hrow] at hx hcr hrr hrl hnext
        clear hrow
        have hrr1 := Aside0.mk (Kd.C_below hrr L1.out)
        clear hrr
        obtain ⟨ts, hts⟩ : ∃ ts, ts = topsW l0 i := ⟨_, rfl⟩
        rw [← hts] at hnext hsm hlen T1 htl
        clear hts
        obtain ⟨v, hP, hRt⟩ := T1.out.out
        obtain ⟨Av, cv, rfl⟩ := Kd.R_slice hRt
        have hPlt : w.heap.size < wr.heap.size := (Array.getElem?_eq_some_iff.1 hP).1
        have hp := Aside0.mk (cell_of_one hP)
        replace hP := Aside0.mk hP
        replace hRt := Aside0.mk hRt
        clear T1
        go_wp2
        refine start_ (n := 6) (S := fun w' => Aside0 (w'.cell? ⟨w.heap.size, 0, none⟩ = some (.slice Av ts.length cv))) (ds := [5]) #[false, false, false, false, false, false] (by kernel_rfl) rfl rfl ⟨hp.out⟩ (fun hHeld => ?_)
        refine with_tabW root_push.tab8 root_push.bits8 (fun HT_ HW_ => ?_)
        have L3 := Aside0.mk (below_drew1 L1.out)
        have R3 := Aside0.mk (Kd.C_drew hrr1.out)
        have T3 := Aside0.mk (Kd.R_drew hRt.out)
        have P3 := Aside0.mk (show wr.drew.heap[w.heap.size]? = _ from hP.out)
        have hz3 : w.heap.size < wr.drew.heap.size := hPlt
        generalize wr.drew = w3 at L3 R3 T3 P3 hz3 hHeld ⊢
        refine take_ (i := 0) (N := some 19) (v := ?_) (a' := ?_) #[true, false, false, false, false, false] rfl rfl (take_ofW HT_.out HW_.out (by kernel_rfl)) (fun _ _ _ h => h) (Or.inl ⟨by rfl, ?_⟩) hHeld ?_ ?_
        rotate_left
        · intro w' hS'
          have hc := hS'.out
          go_simp
          with_reducible rfl
        rotate_left
        · simp only [Act.put, List.setIfInBounds_toArray, List.set_cons_zero, List.set_cons_succ, i64_w, i32_w]
          rfl
        refine pure_ (i := 1) (N := some 20) (v := ?_) (a' := ?_) #[true, true, false, false, false, false] rfl rfl (any_of HT_.out (by kernel_rfl)) (fun _ _ _ h => h) (Or.inl ⟨by rfl, ?_⟩) ?_ ?_
        rotate_left
        · intro w'
          go_simp
          with_reducible rfl
        rotate_left
        · simp only [Act.put, List.setIfInBounds_toArray, List.set_cons_zero, List.set_cons_succ, i64_w, i32_w]
          rfl
        refine one_ (i := 2) (N := some 21) #[true, true, true, false, false, false] rfl rfl (one_of HT_.out (by kernel_rfl)) (by decide) (fun K hK => ?_)
        refine goes_ Tryd.func39 (by kernel_rfl) rfl #[.slice Ar row.length cr] (by rfl) rfl rfl (by (try simp only [List.map_toArray, List.map_cons, List.map_nil]); first | done | rfl) ?_
        with_reducible refine (clone_any Ar cr row w3 R3.out hcr (by omega)).mono ?_
        rintro e w4 ⟨v1, rfl, O4, l4⟩
        refine ⟨_, rfl, ?_⟩
        have L4 := Aside0.mk (below_then L3.out L3.out.size l4)
        have T4 := Aside0.mk (Kd.R_below T3.out l4)
        have P4 := Aside0.mk ((l4.block _ hz3).trans P3.out)
        have hz4 : w.heap.size < w4.heap.size := Nat.lt_of_lt_of_le hz3 l4.size
        have M4 := Aside0.mk (show Kd.R (Kd.int .u8) 5 w4 (w.heap.size + 1) (fun k => some k ≠ (Value.slice Av ts.length cv).ownBlock) v1 row from Kd.R_lower (Kd.R_mono (Kd.R_bound O4) (fun k hk h => by
          have := Kd.R_lt T3.out k h.symm
          have := hk.2.1
          omega)) (by omega))
        obtain ⟨A4, c4, rfl⟩ := Kd.R_slice O4
        refine hK.out _ _ ⟨(l4.cell (World.block_lt_of_cell? _ _ hHeld.out)).trans hHeld.out⟩ (fun hHeld => ?_)
        clear hK K l4 O4
        refine norm_ (a' := ?_) ?_ ?_
        rotate_left
        · show Act.put _ (some 21) _ = _
          simp only [Act.put, List.setIfInBounds_toArray, List.set_cons_zero, List.set_cons_succ, i64_w, i32_w]
          rfl
        refine one_ (i := 3) (N := some 22) #[true, true, true, true, false, false] rfl rfl (one_of HT_.out (by kernel_rfl)) (by decide) (fun K hK => ?_)
        refine value_ (v := .slice (some ⟨w4.heap.size, 0, none⟩) 1 1) (w1 := w4.alloc (.cells #[.slice A4 row.length c4] 31)) (by rfl) rfl (by go_simp) ?_
        refine hK.out _ _ ⟨((Below.refl w4.heap.size w4).alloc (Nat.le_refl _) _).cell (World.block_lt_of_cell? _ _ hHeld.out) |>.trans hHeld.out⟩ (fun hHeld => ?_)
        clear hK K
        refine norm_ (a' := ?_) ?_ ?_
        rotate_left
        · show Act.put _ (some 22) _ = _
          simp only [Act.put, List.setIfInBounds_toArray, List.set_cons_zero, List.set_cons_succ, i64_w, i32_w]
          rfl
        refine one_ (i := 4) (N := some 23) #[true, true, true, true, true, false] rfl rfl (one_of HT_.out (by kernel_rfl)) (by decide) (fun K hK => ?_)
        refine Kd.R_append_step (Kd.slice 5 (Kd.int .u8)) (w0 := w4) (W := w4) (w.heap.size + 1) (by rfl) _ _ 22 31 (.slice none 0 0) 24 rfl Tryd.underlying22 info31 rfl (by decide) (by decide) (.slice Av ts.length cv) ts row [.slice A4 row.length c4] (fun _ => True) (fun k => some k ≠ (Value.slice Av ts.length cv).ownBlock) rfl rfl ⟨_, rfl, M4.out⟩ (fun k hk => ⟨trivial, hk⟩) (fun _ _ => trivial) T4.out (Below.refl _ _) (by omega) (by omega) ?_
        intro v5 w5 h1 h2 h3 h4
        obtain ⟨A5, c5, rfl⟩ := Kd.R_slice h1
        have H5 := Aside0.mk h1
        have L5 := Aside0.mk (L4.out.trans (h2.mono (by omega)))
        have P5 := Aside0.mk ((h2.block _ (by omega)).trans P4.out)
        refine hK.out _ _ ⟨cell_of_one P5.out⟩ (fun hHeld => ?_)
        clear hK K h1 h2 h3 h4 hHeld
        refine norm_ (a' := ?_) ?_ ?_
        rotate_left
        · show Act.put _ (some 23) _ = _
          simp only [Act.put, List.setIfInBounds_toArray, List.set_cons_zero, List.set_cons_succ, i64_w, i32_w]
          rfl
        refine last_ (i := 5) (N := none) #[true, true, true, true, true, true] rfl rfl (one_of HT_.out (by kernel_rfl)) (by decide) (fun K hK => ?_)
        have hp5 := cell_of_one P5.out
        have hf5 := free_of_one P5.out
        refine skip_ (w1 := w5.setCell ⟨w.heap.size, 0, none⟩ (.slice A5 (ts ++ [row]).length c5)) (by rfl) rfl (by first | (go_simp; done) | (go_simp; rfl)) ?_
        refine hK.out _ _ ?_
        clear hK K hp5 hf5
        refine done_ (done_of HT_.out (by kernel_rfl)) ?_
        have T6 := Aside0.mk (show Tops (w5.setCell ⟨w.heap.size, 0, none⟩ (.slice A5 (ts ++ [row]).length c5)) w.heap.size (ts ++ [row]) from ⟨⟨_, one_setCell P5.out, Kd.R_mono (Kd.R_far (p := ⟨w.heap.size, 0, none⟩) (Kd.R_bound H5.out) (fun k hk => by have := hk.2.1; show k ≠ w.heap.size; omega) _) (fun _ _ => trivial)⟩⟩)
        have L6 := Aside0.mk (L5.out.setCell (p := ⟨w.heap.size, 0, none⟩) (Nat.le_refl _) (.slice A5 (ts ++ [row]).length c5))
        clear HT_ HW_ H5 L5 P5 hHeld M4 T4 P4 L4 R3 T3 P3 L3 hx
        generalize w5.setCell ⟨w.heap.size, 0, none⟩ _ = w6 at T6 L6 ⊢
        have ht6 := HT.out.below L6.out (Nat.le_refl _)
        have hwu : IntKind.u64.wrap ((i : Int) + 1) = ((i + 1 : Nat) : Int) := by rw [F.wu64 (by omega) (by omega)]; rfl
        go_wp2_with fail
        refine (tz_any (i + 1) w6 (by omega) (by omega) ht6).mono ?_
        rintro e w7 ⟨rfl, hw⟩
        rw [hw]
        clear hw w7 hwu ht6
        have htz2 : tz (i + 1) ≤ 12 := tzF_le 12 (i + 1)
        have hl2 : (ts ++ [row]).length = ts.length + 1 := by rw [List.length_append]; rfl
        have hs2 : Small (ts ++ [row]) := fun x hx => by
          rw [List.mem_append, List.mem_singleton] at hx
          rcases hx with hx | hx
          · exact hsm.out x hx
          · rw [hx]; exact hrl
        have htz3 : tz (i + 1) < (ts ++ [row]).length := by have := hlen.out; omega
        obtain ⟨us, hus⟩ : ∃ us, us = ts ++ [row] := ⟨_, rfl⟩
        rw [← hus] at T6 hl2 hs2 htz3 hnext
        clear hus
        obtain ⟨z, hz⟩ : ∃ z, z = tz (i + 1) := ⟨_, rfl⟩
        rw [← hz] at htz2 htz3 hnext htz ⊢
        clear hz
        go_wp2
        go_loopw [28] (fun v28 wr => ∃ j : Nat, v28 = .int .i64 j ∧ j ≤ z ∧ Aside0 (Tops wr w.heap.size (joinsL j us)) ∧ Aside0 (Below w.heap.size w wr)) (fun v28 _ => z + 1 - (intOf v28).toNat)
        case atStart => exact ⟨0, rfl, Nat.zero_le _, T6, L6⟩
        case round =>
          clear T6 L6
          obtain ⟨j, rfl, hj, T7, L7⟩ := hrel
          by_cases hjz : j < z
          · have q1 : ((j : Int) < (z : Int)) = True := eq_true (by omega)
            have hjl := joinsL_length j us (by omega)
            go_wp2_with fail
            refine (join_any w.heap.size (joinsL j us) _ T7.out (by omega) (by omega) (hs2.joins j)).mono ?_
            rintro e w8 ⟨rfl, T8, B8⟩
            rw [← joinsL_succ] at T8
            replace T8 := Aside0.mk T8
            have L8 := Aside0.mk (L7.out.trans B8)
            clear B8 T7 L7
            go_wp2
            go_roundw
            case rel => exact ⟨j + 1, by go_num, by omega, T8, L8⟩
            case measure => simp [intOf]; omega
          · have q1 : ((j : Int) < (z : Int)) = False := eq_false (by omega)
            obtain rfl : j = z := by omega
            go_wp2
            exact ⟨⟨i + 1, by go_num, by omega, ⟨by rw [hnext.out]; exact T7.out⟩, L7⟩, by simp [intOf]; omega⟩
      · have q0 : ((i : Int) < (l0.length : Int)) = False := eq_false (by omega)
        obtain rfl : i = l0.length := by omega
        have hlen := topsW_length l0 l0.length hn
        have hln := lenN_le l0.length
        have hpos : 0 < (topsW l0 l0.length).length := by
          obtain ⟨m, hm⟩ : ∃ m, l0.length = m + 1 := ⟨l0.length - 1, by omega⟩
          have := tz_len m (by omega)
          rw [hlen, hm, lenN]
          omega
        have hsm := topsW_small HS.out l0.length
        have hroot := Aside0.mk (show rootW l0 = rd_L1 (joinsL ((topsW l0 l0.length).length - 1) (topsW l0 l0.length)) 0 from if_neg h0)
        have hle : (topsW l0 l0.length).length ≤ 1000 := by omega
        obtain ⟨us, hus⟩ : ∃ us, us = topsW l0 l0.length := ⟨_, rfl⟩
        rw [← hus] at T1 hpos hsm hroot hle
        clear hus hlen
        go_wp2
        go_loopw [34] (fun v34 wr => ∃ j : Nat, j < us.length ∧ Aside0 (Tops wr w.heap.size (joinsL j us)) ∧ Aside0 (Below w.heap.size w wr)) (fun v34 wr => match wr.cell? ⟨w.heap.size, 0, none⟩ with | some (.slice _ n _) => n | _ => 0)
        case atStart => exact ⟨0, hpos, T1, L1⟩
        case round =>
          clear T1 L1
          obtain ⟨j, hj, T1, L1⟩ := hrel
          have hjl := joinsL_length j us hj
          obtain ⟨v, hP, hRt⟩ := T1.out.out
          obtain ⟨Av, cv, rfl⟩ := Kd.R_slice hRt
          have hp := cell_of_one hP
          rw [hjl] at hp hRt
          by_cases hlast : us.length - j = 1
          · have q1 : ((1 : Int) < ((us.length - j : Nat) : Int)) = False := eq_false (by omega)
            have hj1 : j = us.length - 1 := by omega
            rw [← hj1] at hroot
            rw [hlast] at hp hRt q1
            obtain ⟨ad, _, _, e1, _⟩ := at_L1 (Kd.R_reads' hRt).2.2 0 (by decide) (by omega)
            subst e1
            obtain ⟨cs, hcl, ⟨ve, hce, hRe⟩, hcell⟩ := Kd.R_get hRt ([] : List Int) 0 (by decide) (by decide)
            subst hce
            have hx : wr.cell? ad = some ve := by
              have := hcell 0 _ rfl
              simpa [Addr.add] using this
            obtain ⟨el, hel⟩ : ∃ el, el = (joinsL j us).getD (0 : Int).toNat [] := ⟨_, rfl⟩
            rw [← hel] at hRe
            have hel2 : rootW l0 = el := by rw [hroot.out, hel]; rfl
            obtain ⟨Ae, ce, rfl⟩ := Kd.R_slice hRe
            have HRe := Aside0.mk (show Kd.R (Kd.int .u8) 5 wr w.heap.size (fun _ => True) _ el from Kd.R_mono (Kd.R_lower hRe (by omega)) (fun _ _ => trivial))
            clear hRe hcell hRt hcl hP hel hj1
            replace hel2 := Aside0.mk hel2
            go_wp2
            go_ret
            refine ⟨_, rfl, ?_, L1.out⟩
            rw [hel2.out]
            exact HRe.out
          · have q1 : ((1 : Int) < ((us.length - j : Nat) : Int)) = True := eq_true (by omega)
            replace hRt := Aside0.mk hRt
            replace hP := Aside0.mk hP
            go_wp2_with fail
            refine (join_any w.heap.size (joinsL j us) _ T1.out (by omega) (by omega) (hsm.joins j)).mono ?_
            rintro e w8 ⟨rfl, T8, B8⟩
            rw [← joinsL_succ] at T8
            have L8 := Aside0.mk (L1.out.trans B8)
            obtain ⟨v8, hP8, hR8⟩ := T8.out
            obtain ⟨A8, c8, rfl⟩ := Kd.R_slice hR8
            have hp8 := cell_of_one hP8
            rw [joinsL_length (j + 1) us (by omega)] at hp8
            replace T8 := Aside0.mk T8
            clear B8 hP8 hR8
            go_wp2
            go_roundw
            case rel => exact ⟨j + 1, by omega, T8, L8⟩
            case measure => rw [hp, hp8]; simp only []; omega
end Go.Proofs.YtgdogjnjbinoiaaDoor.Q
