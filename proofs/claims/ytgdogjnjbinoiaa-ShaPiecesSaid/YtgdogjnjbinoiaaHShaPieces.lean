/- What the call of casketlaw13.ShaPieces answers: true, however bytes are cut; nothing below the memory that it makes is turned. -/
import Derived.Test.YtgdogjnjbinoiaaHShaOthers
import Derived.Test.YtgdogjnjbinoiaaB8
import Derived.Test.YtgdogjnjbinoiaaHapp
namespace Go.Proofs.Ytgdogjnjbinoiaa.Q
open Go.RowKit Go.Proofs.YtgdogjnjbinoiaaW.PrintWords Go.Proofs.YtgdogjnjbinoiaaW.PrintLast Go.Proofs.YtgdogjnjbinoiaaW.PrintMore Go.Proofs.Ytgdogjnjbinoiaa.H
set_option linter.unusedVariables false
set_option linter.unusedSimpArgs false
/-- All bytes of the first pieces. -/
def catN (Z : Nat → List Int) : Nat → List Int
  | 0 => []
  | i + 1 => catN Z i ++ Z i
theorem own_slice {w : World} {base e : Nat} {v : Value} {l : List Int} (h : Own w base e .u8 v l) : ∃ A c, v = .slice A l.length c ∧ Kd.C (Kd.int .u8) w A l.length l ∧ l.length ≤ c := by
  obtain ⟨A, c, rfl⟩ := Kd.R_slice h.toR
  exact ⟨A, c, rfl, (Kd.R_reads' h.toR).2.2, (Kd.R_reads' h.toR).2.1⟩
set_option maxHeartbeats 2000000 in
set_option maxRecDepth 100000 in
theorem shapieces_any (A0 : Option Addr) (c0 n : Nat) (A : Nat → Option Addr) (C : Nat → Nat) (Z : Nat → List Int) (w : World)
    (hcell : ∀ r, r < n → ∃ ad, A0 = some ad ∧ w.cell? (ad.add r) = some (.slice (A r) (Z r).length (C r))) (hle : ∀ r, r < n → (Z r).length ≤ C r) (hrd : ∀ r, r < n → Kd.C (Kd.int .u8) w (A r) (Z r).length (Z r)) (hby : ∀ r, r < n → F.Bytes (Z r)) :
    Calls Try.prog 7 #[.slice A0 n c0] w fun e w' => e = .returned (.bool true) ∧ Below w.heap.size w w' := by
  go_enter Try.func7, Try.ntmps7
  by_cases hl : (n : Int) > 40
  · have q0 : ((40 : Int) < (n : Int)) = True := eq_true (by omega)
    go_wp2_with fail
    refine (casketlaw13_awake.calls true _ Pure.awake13).mono ?_
    rintro e w1 ⟨rfl, L1⟩
    go_wp2
    go_ret
    exact ⟨rfl, L1⟩
  · have q40 : ((40 : Int) < (n : Int)) = False := eq_false (by omega)
    have hn : n ≤ 40 := by omega
    go_wp2_with fail
    refine (casketlaw13_awake.calls true _ Pure.awake13).mono ?_
    rintro e w1 ⟨rfl, L1⟩
    replace L1 := Aside0.mk L1
    have hg1 : w.heap.size ≤ w1.heap.size := L1.out.size
    go_wp2
    have H0 := Aside0.mk (HashRep.at0 w1 _ rfl)
    have L0 := Aside0.mk (L1.out.alloc hg1 (.cells (hashCells false (List.replicate 8 0) (List.replicate 64 0) 0).toArray 33))
    go_loopw [5, 6] (fun v5 v6 wr => ∃ (i : Nat), v6 = .int .i64 i ∧ i ≤ n ∧ Aside0 (HashRep wr w1.heap.size (catN Z i)) ∧ Aside0 (Own wr (w1.heap.size + 1) 5 .u8 v5 (catN Z i)) ∧ Aside0 ((catN Z i).length ≤ 300 * i) ∧ Aside0 (F.Bytes (catN Z i)) ∧ Aside0 (Below w.heap.size w wr)) (fun _ v6 _ => n + 1 - (intOf v6).toNat)
    case atStart => exact ⟨0, rfl, Nat.zero_le _, H0, ⟨Own.nil _ _ _ _⟩, ⟨Nat.le_refl _⟩, ⟨fun x hx => by cases hx⟩, L0⟩
    case round =>
      clear H0 L0 L1
      obtain ⟨i, rfl, hi, H1, O1, hln, hb1, L1⟩ := hrel
      have hg2 : w1.heap.size < wr.heap.size := by
        obtain ⟨b, s, p, h1, _⟩ := H1.out.out
        exact h1.lt
      obtain ⟨Ao, co, rfl, OC1, hco1⟩ := own_slice O1.out
      have hfar : some w1.heap.size ≠ (Value.slice Ao (catN Z i).length co).ownBlock := own_far O1.out.out
      by_cases hlt : i < n
      · obtain ⟨ad, hAd, hc⟩ := hcell i hlt
        subst hAd
        have p0 : (0 ≤ (i : Int)) = True := eq_true (by omega)
        have q0 : ((i : Int) < (n : Int)) = True := eq_true (by omega)
        have hx := (L1.out.cell (World.block_lt_of_cell? w _ hc)).trans hc
        by_cases h300 : ((Z i).length : Int) > 300
        · have q1 : ((300 : Int) < ((Z i).length : Int)) = True := eq_true (by omega)
          clear hc
          go_wp2
          go_ret
          exact ⟨rfl, L1.out⟩
        · have q1 : ((300 : Int) < ((Z i).length : Int)) = False := eq_false (by omega)
          have hln' := hln.out
          have hZl : (Z i).length ≤ 300 := by omega
          have hcl : (catN Z i).length ≤ 12000 := by omega
          have hle' := Aside0.mk (hle i hlt)
          have hrd' := Aside0.mk (hrd i hlt)
          have hc' := Aside0.mk hc
          clear hc
          replace hcell := Aside0.mk hcell
          replace hle := Aside0.mk hle
          replace hrd := Aside0.mk hrd
          go_wp2_with fail
          refine (write_any w1.heap.size (A i) (C i) (catN Z i) (Z i) wr H1.out (Kd.C_below hrd'.out L1.out) hle'.out (far_of_old hrd'.out hg1) (by omega)).mono ?_
          rintro e w2 ⟨rfl, H2, G2⟩
          replace H2 := Aside0.mk H2.rep
          have O2 := Aside0.mk (O1.out.grown G2 (Or.inr (fun h => hfar h.symm)))
          have L2 := Aside0.mk (L1.out.grown G2 L1.out.size (fun k hk => by injection hk with hk; omega))
          have OC2 := Aside0.mk (C_grown OC1 G2 (by
            rcases O1.out.out.2 with ⟨h1, _⟩ | ⟨g', cap, cur, h1, h2, h3⟩
            · left
              injection h1
            · right
              intro ad' e2
              injection h1 with h1 _ _
              rw [h1] at e2
              cases e2
              intro h
              have h := Option.some.inj h
              change g' = w1.heap.size at h
              omega))
          replace hx := (L2.out.cell (World.block_lt_of_cell? w _ hc'.out)).trans hc'.out
          have hz2 := G2.size
          clear G2 H1 L1 OC1 O1
          go_wp2_with (at_builtin; refine app_any (k := .u8) (l := catN Z i) (base := w1.heap.size + 1) (e := 5) (A := A i) (c := C i) (m := (Z i).length) rfl _ _ 22 rfl Try.underlying22 1 info5 _ (Z i) rfl O2.out rfl (Kd.C_below hrd'.out L2.out) (by decide) (by omega) (by omega) ?_; intro v3 w3 h1 h2 h3; rw [show catN Z i ++ Z i = catN Z (i + 1) from rfl] at h1; have H3 := Aside0.mk (H2.out.grown h2 hfar); have L3 := Aside0.mk (L2.out.grown h2 L2.out.size (fun k hk => Nat.le_trans (by omega) (own_base O2.out.out k hk))); have O3 := Aside0.mk h1; obtain ⟨Ao3, co3, rfl, OC3, hco3⟩ := own_slice h1; replace OC3 := Aside0.mk OC3; replace hco3 := Aside0.mk hco3; replace hx := (L3.out.cell (World.block_lt_of_cell? w _ hc'.out)).trans hc'.out; have hz3 := Aside0.mk h2.size; clear h1 h2 h3 H2 L2 O2 OC2)
          have hcat : catN Z i ++ Z i = catN Z (i + 1) := rfl
          rw [hcat] at H3
          have hln3 := Aside0.mk (show (catN Z (i + 1)).length ≤ 300 * (i + 1) by rw [← hcat, List.length_append]; omega)
          have hcl3 : (catN Z (i + 1)).length ≤ 12300 := by rw [← hcat, List.length_append]; omega
          have hb3 := Aside0.mk (show F.Bytes (catN Z (i + 1)) from fun x hx => by
            rw [← hcat, List.mem_append] at hx
            exact hx.elim (hb1.out x) (hby i hlt x))
          clear hcat
          refine (len_any w1.heap.size (catN Z (i + 1)) w3 H3.out).mono ?_
          rintro e w4 ⟨rfl, hw⟩
          rw [hw]
          clear hw w4
          by_cases h3 : Int.tmod (i : Int) 3 = 1
          · have q3 : (Int.tmod (i : Int) 3 == 1) = true := by rw [h3]; rfl
            go_wp2_with fail
            refine (hashsum_any w1.heap.size (catN Z (i + 1)) w3 H3.out (by omega)).mono ?_
            rintro e w4 ⟨v4, rfl, O4, l4⟩
            replace H3 := Aside0.mk (H3.out.below l4)
            replace O3 := Aside0.mk (O3.out.below l4)
            replace L3 := Aside0.mk (below_then L3.out L3.out.size l4)
            replace OC3 := Aside0.mk (Kd.C_below OC3.out l4)
            replace O4 := Aside0.mk O4
            clear l4 hx hz3
            go_wp2_with fail
            refine (sum_any Ao3 co3 (catN Z (i + 1)) w4 OC3.out hco3.out (by omega)).mono ?_
            rintro e w5 ⟨v5, rfl, O5, l5⟩
            replace H3 := Aside0.mk (H3.out.below l5)
            replace O3 := Aside0.mk (O3.out.below l5)
            replace L3 := Aside0.mk (below_then L3.out L3.out.size l5)
            replace O4 := Aside0.mk (O4.out.below l5)
            replace O5 := Aside0.mk O5
            clear l5 OC3
            go_wp2_with fail
            refine (same_own _ _ 5 v4 v5 (shaW (catN Z (i + 1))) w5 O4.out O5.out (by rw [shaW_length]; decide) (by rw [shaW_length]; decide)).mono ?_
            rintro e w6 ⟨rfl, ⟨nd, rfl⟩⟩
            replace H3 := Aside0.mk (H3.out.below (pw_below_drewN (Below.refl _ _) nd))
            replace O3 := Aside0.mk (O3.out.below (pw_below_drewN (Below.refl _ _) nd))
            replace L3 := Aside0.mk (pw_below_drewN L3.out nd)
            generalize w5.drewN nd = w6 at H3 O3 L3 ⊢
            clear O4 O5
            go_wp2
            go_roundw
            case rel => exact ⟨i + 1, by go_num, by omega, H3, O3, hln3, hb3, L3⟩
            case measure => simp [intOf]; omega
          · have q3 : (Int.tmod (i : Int) 3 == 1) = false := beq_eq_false_iff_ne.mpr h3
            go_wp2
            go_roundw
            case rel => exact ⟨i + 1, by go_num, by omega, H3, O3, hln3, hb3, L3⟩
            case measure => simp [intOf]; omega
      · have q0 : ((i : Int) < (n : Int)) = False := eq_false (by omega)
        obtain rfl : i = n := by omega
        have hcl : (catN Z i).length ≤ 12000 := by have := hln.out; omega
        replace OC1 := Aside0.mk OC1
        replace hco1 := Aside0.mk hco1
        replace hcell := Aside0.mk hcell
        replace hle := Aside0.mk hle
        replace hrd := Aside0.mk hrd
        clear hfar hlt hln
        go_wp2_with fail
        refine (hashsum_any w1.heap.size (catN Z i) wr H1.out (by omega)).mono ?_
        rintro e w4 ⟨v4, rfl, O4, l4⟩
        replace H1 := Aside0.mk (H1.out.below l4)
        replace L1 := Aside0.mk (below_then L1.out L1.out.size l4)
        replace OC1 := Aside0.mk (Kd.C_below OC1.out l4)
        replace O4 := Aside0.mk O4
        clear l4 O1
        go_wp2_with fail
        refine (sum_any Ao co (catN Z i) w4 OC1.out hco1.out (by omega)).mono ?_
        rintro e w5 ⟨v5, rfl, O5, l5⟩
        replace H1 := Aside0.mk (H1.out.below l5)
        replace L1 := Aside0.mk (below_then L1.out L1.out.size l5)
        replace OC1 := Aside0.mk (Kd.C_below OC1.out l5)
        replace O4 := Aside0.mk (O4.out.below l5)
        replace O5 := Aside0.mk O5
        clear l5
        go_wp2_with fail
        refine (same_own _ _ 5 v4 v5 (shaW (catN Z i)) w5 O4.out O5.out (by rw [shaW_length]; decide) (by rw [shaW_length]; decide)).mono ?_
        rintro e w6 ⟨rfl, ⟨nd, rfl⟩⟩
        replace H1 := Aside0.mk (H1.out.below (pw_below_drewN (Below.refl _ _) nd))
        replace OC1 := Aside0.mk (Kd.C_below OC1.out (pw_below_drewN (Below.refl _ _) nd))
        replace L1 := Aside0.mk (pw_below_drewN L1.out nd)
        generalize w5.drewN nd = w6 at H1 OC1 L1 ⊢
        clear O4 O5
        go_wp2_with fail
        refine (hashsum_any w1.heap.size (catN Z i) w6 H1.out (by omega)).mono ?_
        rintro e w7 ⟨v7, rfl, O7, l7⟩
        replace L1 := Aside0.mk (below_then L1.out L1.out.size l7)
        replace OC1 := Aside0.mk (Kd.C_below OC1.out l7)
        replace O7 := Aside0.mk O7
        clear l7 H1
        go_wp2_with fail
        refine (refsum_any Ao co (catN Z i) w7 OC1.out hco1.out (by omega) hb1.out).mono ?_
        rintro e w8 ⟨v8, rfl, O8, l8⟩
        replace L1 := Aside0.mk (below_then L1.out L1.out.size l8)
        replace O7 := Aside0.mk (O7.out.below l8)
        replace O8 := Aside0.mk O8
        clear l8 OC1
        go_wp2_with fail
        refine (same_own _ _ 5 v7 v8 (shaW (catN Z i)) w8 O7.out O8.out (by rw [shaW_length]; decide) (by rw [shaW_length]; decide)).mono ?_
        rintro e w9 ⟨rfl, ⟨nd2, rfl⟩⟩
        go_wp2
        go_ret
        exact ⟨rfl, pw_below_drewN L1.out nd2⟩
end Go.Proofs.Ytgdogjnjbinoiaa.Q
