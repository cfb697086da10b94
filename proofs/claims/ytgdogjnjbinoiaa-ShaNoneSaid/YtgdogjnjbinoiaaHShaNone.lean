/- What the call of casketlaw13.ShaNone answers: true, for any bytes; nothing below the memory that it makes is turned. -/
import Derived.Test.YtgdogjnjbinoiaaHShaCut
import Derived.Test.YtgdogjnjbinoiaaB8
import Derived.Test.YtgdogjnjbinoiaaHapp
namespace Go.Proofs.Ytgdogjnjbinoiaa.Q
open Go.RowKit Go.Proofs.YtgdogjnjbinoiaaW.PrintWords Go.Proofs.YtgdogjnjbinoiaaW.PrintLast Go.Proofs.YtgdogjnjbinoiaaW.PrintMore Go.Proofs.Ytgdogjnjbinoiaa.H
set_option linter.unusedVariables false
set_option linter.unusedSimpArgs false
theorem own_frozen {w : World} {base e g n c : Nat} {k : IntKind} {l : List Int} (h : Own w base e k (.slice (some ⟨g, 0, none⟩) n c) l) (i : Nat) : w.frozen? ⟨g, i, none⟩ = false := by
  rcases h.out.2 with ⟨h1, _⟩ | ⟨g', cap, cur, h1, h2, h3, _⟩
  · cases h1
  · injection h1 with h1 _ _
    have h1 := Option.some.inj h1
    have h1 : g = g' := congrArg Addr.block h1
    subst h1
    exact frozen_of_row w g i _ _ h3
theorem own_cell {w : World} {base e g n c : Nat} {k : IntKind} {l : List Int} (h : Own w base e k (.slice (some ⟨g, 0, none⟩) n c) l) (i : Nat) (hi : i < l.length) : w.cell? ⟨g, i, none⟩ = some (.int k (rd l i)) := by
  have := h.out.cells (g := g) rfl i (.int k (rd l i)) (by rw [nums_getElem?]; simp [rd, List.getD_eq_getElem?_getD, hi])
  rwa [add_plain] at this
theorem nil_readsC (w : World) : Kd.C (Kd.int .u8) w none ([] : List Int).length [] := Kd.C_of_reads (enc := Value.int .u8) (d := (0 : Int)) (h1 := fun _ => rfl) ⟨rfl, by decide, fun h => by cases h⟩
set_option maxHeartbeats 1000000 in
set_option maxRecDepth 100000 in
theorem shanone_any (A0 : Option Addr) (c0 : Nat) (l0 : List Int) (w : World) (hr : Kd.C (Kd.int .u8) w A0 l0.length l0) (hc0 : l0.length ≤ c0) :
    Calls Try.prog 8 #[.slice A0 l0.length c0] w fun e w' => e = .returned (.bool true) ∧ Below w.heap.size w w' := by
  have HR := Aside0.mk hr
  clear hr
  go_enter Try.func8, Try.ntmps8
  by_cases hl : (l0.length : Int) > 300
  · have q0 : ((300 : Int) < (l0.length : Int)) = True := eq_true (by omega)
    go_wp2_with fail
    refine (casketlaw13_awake.calls true _ Pure.awake13).mono ?_
    rintro e w1 ⟨rfl, L1⟩
    go_wp2
    go_ret
    exact ⟨rfl, L1⟩
  · have q0 : ((300 : Int) < (l0.length : Int)) = False := eq_false (by omega)
    have hn : l0.length ≤ 300 := by omega
    go_wp2_with fail
    refine (casketlaw13_awake.calls true _ Pure.awake13).mono ?_
    rintro e w1 ⟨rfl, L1⟩
    replace L1 := Aside0.mk L1
    have hg1 : w.heap.size ≤ w1.heap.size := L1.out.size
    go_wp2_with fail
    refine (write_nil A0 l0.length c0 _).mono ?_
    rintro e w2 ⟨rfl, hw⟩
    rw [hw]
    clear hw w2
    go_wp2_with fail
    refine (write_any w1.heap.size A0 c0 [] l0 _ (HashRep.at0 w1 _ (by rfl)) (Kd.C_below HR.out (L1.out.alloc hg1 _)) hc0 (far_of_old HR.out hg1) (by simp; omega)).mono ?_
    rintro e w2 ⟨rfl, H2, G2⟩
    have hz2 : w1.heap.size < w2.heap.size := by have := G2.size; simp at this; omega
    have L2 := Aside0.mk ((L1.out.alloc hg1 _).grown G2 (by simp; omega) (fun k hk => by injection hk with hk; omega))
    replace H2 := Aside0.mk H2.rep
    rw [List.nil_append] at H2
    clear G2
    go_wp2_with fail
    refine (hashsum_any w1.heap.size l0 w2 H2.out (by omega)).mono ?_
    rintro e w3 ⟨v1, rfl, O1, l3⟩
    have L3 := Aside0.mk (below_then L2.out L2.out.size l3)
    replace H2 := Aside0.mk (H2.out.below l3)
    have hz3 : w2.heap.size ≤ w3.heap.size := l3.size
    clear l3
    have e32 := shaW_length l0
    obtain ⟨g1, c1, rfl, hb1, hs1, C1⟩ := O1.cells (by rw [e32]; decide)
    clear C1
    rw [e32] at O1 ⊢
    replace O1 := Aside0.mk O1
    replace e32 := Aside0.mk e32
    go_wp2_with fail
    refine (write_any w1.heap.size (some ⟨w3.heap.size, 0, none⟩) 1 l0 [1] _ (H2.out.alloc _) (lit_readsC w3 [1] 5 (0, 0) (by decide)) (by decide) (Or.inr (by intro ad h; cases h; intro h; have h := Option.some.inj h; change w3.heap.size = w1.heap.size at h; omega)) (by simp; omega)).mono ?_
    rintro e w4 ⟨rfl, H4, G4⟩
    have hz4 : w3.heap.size < w4.heap.size := by have := G4.size; simp at this; omega
    have L4 := Aside0.mk ((L3.out.alloc L3.out.size _).grown G4 (by simp; omega) (fun k hk => by injection hk with hk; omega))
    replace O1 := Aside0.mk ((O1.out.alloc _).grown G4 (Or.inr (by intro h; have h := Option.some.inj h; change g1 = w1.heap.size at h; omega)))
    replace H4 := Aside0.mk H4.rep
    clear G4 H2 L2 L3
    obtain ⟨l1, hl1⟩ : ∃ l1, l1 = l0 ++ [1] := ⟨_, rfl⟩
    rw [← hl1] at H4
    have hl1n : l1.length ≤ 301 := by rw [hl1, List.length_append]; simp; omega
    replace hl1 := Aside0.mk hl1
    go_wp2_with fail
    refine (hashsum_any w1.heap.size l1 w4 H4.out (by omega)).mono ?_
    rintro e w5 ⟨v2, rfl, O2, l5⟩
    have L5 := Aside0.mk (below_then L4.out L4.out.size l5)
    replace H4 := Aside0.mk (H4.out.below l5)
    replace O1 := Aside0.mk (O1.out.below l5)
    have hz5 : w4.heap.size ≤ w5.heap.size := l5.size
    clear l5 L4
    have f32 := shaW_length l1
    obtain ⟨g2, c2, rfl, hb2, hs2, C2⟩ := O2.cells (by rw [f32]; decide)
    clear C2
    rw [f32] at O2 ⊢
    replace O2 := Aside0.mk O2
    replace f32 := Aside0.mk f32
    go_wp2_with fail
    refine (sum_any A0 c0 l0 w5 (Kd.C_below HR.out L5.out) hc0 (by omega)).mono ?_
    rintro e w6 ⟨v3, rfl, O3, l6⟩
    have L6 := Aside0.mk (below_then L5.out L5.out.size l6)
    replace H4 := Aside0.mk (H4.out.below l6)
    replace O1 := Aside0.mk (O1.out.below l6)
    replace O2 := Aside0.mk (O2.out.below l6)
    replace O3 := Aside0.mk O3
    have hz6 : w5.heap.size ≤ w6.heap.size := l6.size
    clear l6 L5
    go_wp2_with fail
    refine (same_own _ _ 5 _ v3 (shaW l0) w6 O1.out O3.out (by rw [shaW_length]; decide) (by rw [shaW_length]; decide)).mono ?_
    rintro e w7 ⟨rfl, ⟨nd, rfl⟩⟩
    have L7 := Aside0.mk (pw_below_drewN L6.out nd)
    replace H4 := Aside0.mk (H4.out.below (pw_below_drewN (Below.refl _ _) nd))
    replace O1 := Aside0.mk (O1.out.below (pw_below_drewN (Below.refl _ _) nd))
    replace O2 := Aside0.mk (O2.out.below (pw_below_drewN (Below.refl _ _) nd))
    have hz7 : (w6.drewN nd).heap.size = w6.heap.size := rfl
    generalize w6.drewN nd = w7 at L7 H4 O1 O2 hz7 ⊢
    clear O3 L6
    have a0 := own_cell O1.out 0 (by rw [e32.out]; decide)
    have f0 := own_frozen O1.out 0
    go_wp2_with fail
    have L8 := Aside0.mk (L7.out.setCell (p := ⟨g1, 0, none⟩) (show w.heap.size ≤ g1 by omega) (.int .u8 (Go.bits .xor .u8 (rd (shaW l0) 0) 255)))
    have G8 := grown_set w7 g1 0 (.int .u8 (Go.bits .xor .u8 (rd (shaW l0) 0) 255))
    have hH : some w1.heap.size ≠ some g1 := by intro h; have h := Option.some.inj h; omega
    replace H4 := Aside0.mk (H4.out.grown G8 hH)
    replace O2 := Aside0.mk (O2.out.grown G8 (Or.inr (by intro h; have h := Option.some.inj h; change g2 = g1 at h; omega)))
    have hz8 := G8.size
    clear a0 f0 G8 O1 L7 hH
    generalize World.setCell w7 _ _ = wr at L8 H4 O2 hz8 ⊢
    refine (len_nil _).mono ?_
    rintro e w9 ⟨rfl, hw⟩
    rw [hw]
    clear hw w9
    go_wp2_with fail
    refine (hashsum_nil _).mono ?_
    rintro e w9 ⟨v4, rfl, O4, B9⟩
    replace O4 := Aside0.mk O4
    replace B9 := Aside0.mk B9
    go_wp2_with fail
    refine (sum_any none 0 [] _ (nil_readsC _) (by decide) (by decide)).mono ?_
    rintro e w10 ⟨v5, rfl, O5, l10⟩
    replace O4 := Aside0.mk (O4.out.below l10)
    have B10 := Aside0.mk (below_then B9.out B9.out.size l10)
    replace O5 := Aside0.mk O5
    clear B9 l10
    go_wp2_with fail
    refine (same_own _ _ 5 v4 v5 (shaW []) w10 O4.out O5.out (by rw [shaW_length]; decide) (by rw [shaW_length]; decide)).mono ?_
    rintro e w11 ⟨rfl, ⟨nd2, rfl⟩⟩
    have B11 := Aside0.mk (pw_below_drewN B10.out nd2)
    generalize w10.drewN nd2 = w11 at B11 ⊢
    clear O4 O5 B10
    have HR11 := Aside0.mk (Kd.C_below HR.out ((L8.out.trans (B11.out.mono (by omega))).alloc (by have := B11.out.size; omega) (.cells (nums .u8 []).toArray 5)))
    go_wp2_with (first
      | (at_builtin; ((refine gate_guard (by rfl) ?_; dsimp only); refine app_any (k := .u8) (l := []) (base := wr.heap.size) (e := 5) (A := A0) (c := c0) (m := l0.length) rfl _ _ 22 rfl Try.underlying22 1 info5 _ l0 rfl (Own.of_blk (Blk.at0 w11 _ .u8 [] _ rfl) (by have := B11.out.size; omega) (by decide)) rfl HR11.out (by decide) (by simp; omega) (by have := B11.out.size; simp; omega) ?_; intro v12 w12 h1 h2 h3; have B12 := Aside0.mk ((B11.out.alloc B11.out.size (.cells (nums .u8 []).toArray 5)).grown h2 (by have := B11.out.size; simp; omega) (own_base (Own.of_blk (k := .u8) (l := []) (base := wr.heap.size) (Blk.at0 w11 5 .u8 [] _ rfl) (by have := B11.out.size; omega) (by decide)).out)); replace h1 := Aside0.mk h1; clear h2 h3))
      | (at_builtin; ((refine gate_guard (by rfl) ?_; dsimp only); refine app_blk (k := .u8) (l := [] ++ l0) (base := wr.heap.size) (g2 := w12.heap.size) (c := 1) (t2 := 5) rfl _ _ 22 rfl Try.underlying22 1 info5 _ [1] rfl (h1.out.alloc _) rfl (Blk.at0 _ _ _ _ _ rfl) (by decide) (by simp; omega) (by have := B12.out.size; simp; omega) ?_; intro v13 w13 k1 k2 k3; have B13 := Aside0.mk ((B12.out.alloc B12.out.size (.cells (nums .u8 [1]).toArray 5)).grown k2 (by have := B12.out.size; simp; omega) (own_base h1.out.out)); rw [List.nil_append, ← hl1.out] at k1; obtain ⟨g13, c13, rfl, _, kc13, kr13⟩ := k1.readsC (by rw [hl1.out]; simp) (by omega); replace kr13 := Aside0.mk kr13; clear k1 k2 k3 h1)))
    refine (sum_any (some ⟨g13, 0, none⟩) c13 l1 w13 kr13.out kc13 (by omega)).mono ?_
    rintro e w14 ⟨v14, rfl, O14, l14⟩
    have B14 := Aside0.mk (below_then B13.out B13.out.size l14)
    replace O14 := Aside0.mk O14
    clear l14 B13 B12 kr13
    go_wp2_with fail
    refine (same_own _ _ 5 _ v14 (shaW l1) w14 (O2.out.below B14.out) O14.out (by rw [shaW_length]; decide) (by rw [shaW_length]; decide)).mono ?_
    rintro e w15 ⟨rfl, ⟨nd3, rfl⟩⟩
    have B15 := Aside0.mk (pw_below_drewN B14.out nd3)
    generalize w14.drewN nd3 = w15 at B15 ⊢
    clear B14 O14
    go_wp2_with fail
    refine (hashsum_any w1.heap.size l1 w15 (H4.out.below B15.out) (by omega)).mono ?_
    rintro e w16 ⟨v16, rfl, O16, l16⟩
    have B16 := Aside0.mk (below_then B15.out B15.out.size l16)
    replace O16 := Aside0.mk O16
    clear l16 B15
    go_wp2_with fail
    refine (same_own _ _ 5 v16 _ (shaW l1) w16 O16.out (O2.out.below B16.out) (by rw [shaW_length]; decide) (by rw [shaW_length]; decide)).mono ?_
    rintro e w17 ⟨rfl, ⟨nd4, rfl⟩⟩
    go_wp2
    go_ret
    exact ⟨rfl, pw_below_drewN (L8.out.trans (B16.out.mono (by omega))) nd4⟩
end Go.Proofs.Ytgdogjnjbinoiaa.Q
