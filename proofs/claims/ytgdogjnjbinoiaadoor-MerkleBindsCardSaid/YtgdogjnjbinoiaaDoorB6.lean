import Derived.Test.YtgdogjnjbinoiaaDoorDshaX
import Derived.Test.YtgdogjnjbinoiaaDoorDshabX
import Derived.Test.YtgdogjnjbinoiaaDoorDmerkX
import Derived.Test.YtgdogjnjbinoiaaDoorHarr
import Derived.Test.YtgdogjnjbinoiaaDoorHmem
import Derived.Test.YtgdogjnjbinoiaaDoorB5
namespace Go.Proofs.YtgdogjnjbinoiaaDoor.Q
open Go.RowKit Go.Proofs.YtgdogjnjbinoiaaDoorW.PrintWords Go.Proofs.YtgdogjnjbinoiaaDoorW.PrintLast Go.Proofs.YtgdogjnjbinoiaaDoorW.PrintMore Go.Proofs.YtgdogjnjbinoiaaDoor.H
set_option linter.unusedVariables false
set_option linter.unusedSimpArgs false
set_option maxHeartbeats 2000000 in
set_option maxRecDepth 100000 in
theorem hashsum_any (g : Nat) (m : List Int) (w : World) (hH : HashRep w g m) (hm : m.length ≤ 549755813888) :
    Calls Tryd.prog 48 #[.pointer (some ⟨g, 0, none⟩)] w fun e w' =>
      ∃ v, e = .returned v ∧ Own w' w.heap.size 5 .u8 v (shaW m) ∧ Below w.heap.size w w' := by
  obtain ⟨bg, s, p, BK, hs, hp, hb⟩ := hH.out
  clear hH
  replace hb := Aside0.mk hb
  have BK := Aside0.mk BK
  have HCL := Aside0.mk (hash_len bg s p m.length hs hp)
  have OC := Aside0.mk (show ∀ v ∈ hashCells bg s p m.length, v.oneCell' = true from hash_one _ _ _ _)
  replace hs := Aside0.mk hs
  replace hp := Aside0.mk hp
  go_enter Tryd.func48, Tryd.ntmps48
  go_wp2_with (first | (refine load_any rfl _ _ rfl 0 rfl BK.out (hashCells bg s p m.length) (fun j _ => by rw [Nat.zero_add]) (by kernel_rfl) ((show _ = some 74 by kernel_rfl).trans (by rw [HCL.out])) ?_) | (refine store_mid rfl _ _ _ rfl 0 rfl (hashCells bg s p m.length) rfl (Bk.at0 w 67 (hashCells false (List.replicate 8 0) (List.replicate 64 0) 0) _ (by rfl)) (by rw [HCL.out]; decide) ((show _ = some 74 by kernel_rfl).trans (by rw [HCL.out])) OC.out ?_; intro w2 B2 g2 z2; rw [splice_all _ _ HCL.out] at B2; have C73 : w2.cell? ⟨w.heap.size, 73, none⟩ = some (.int .i64 m.length) := (B2.cell 73).trans (hash73 _ _ _ _ hs.out hp.out); replace B2 := Aside0.mk B2; have L2 := Aside0.mk (((Below.refl w.heap.size w).alloc (Nat.le_refl _) (.cells (hashCells false (List.replicate 8 0) (List.replicate 64 0) 0).toArray 67)).grown g2 (by simp) (fun k hk => by injection hk with hk; omega)); replace z2 : w2.heap.size = w.heap.size + 1 := by rw [z2]; simp))
  clear C73 BK OC g2 HCL
  generalize hn : m.length = n at B2 hm ⊢
  replace hn := Aside0.mk hn
  have n1 : n ≤ 549755813888 := hm
  have O0 : Aside0 (Own (w2.alloc (.cells (nums .u8 (endL 0)).toArray 5)) (w.heap.size + 1) 5 .u8 (.slice (some ⟨w.heap.size + 1, 0, none⟩) 1 1) (endL 0)) := ⟨by
    have := Own.of_blk (base := w.heap.size + 1) (Blk.at0 w2 5 .u8 (endL 0) _ rfl) (by omega) (by decide)
    rw [z2] at this
    exact this⟩
  replace B2 := Aside0.mk (B2.out.alloc (.cells (nums .u8 (endL 0)).toArray 5))
  replace L2 := Aside0.mk (L2.out.alloc L2.out.size (.cells (nums .u8 (endL 0)).toArray 5))
  have z3 : w.heap.size + 1 ≤ (w2.alloc (.cells (nums .u8 (endL 0)).toArray 5)).heap.size := by simp; omega
  change Code.wp _ _ _ _ (w2.alloc (.cells (nums .u8 (endL 0)).toArray 5))
  generalize w2.alloc (.cells (nums .u8 (endL 0)).toArray 5) = W0 at O0 B2 L2 z3 ⊢
  go_loopw [5] (fun v wr => ∃ (z : Nat), z ≤ zpad n ∧ Aside0 (Own wr (w.heap.size + 1) 5 .u8 v (endL z)) ∧ Aside0 (Bk wr w.heap.size 67 (hashCells bg s p n)) ∧ Aside0 (Below w.heap.size w wr) ∧ w.heap.size + 1 ≤ wr.heap.size) (fun v _ => 100 - slLen v)
  case atStart => exact ⟨0, Nat.zero_le _, O0, B2, L2, z3⟩
  case round =>
    clear O0 B2 L2 z3
    obtain ⟨z, hz, O1, B2, L2, z3⟩ := hrel
    have hz2 : z ≤ 63 := by unfold zpad at hz; omega
    have hel := endL_length z
    obtain ⟨g1, c1, rfl, hg1, hlc, hcc⟩ := O1.out.readsC (by omega) (by omega)
    clear hcc
    obtain ⟨L, hL⟩ : ∃ L, L = (endL z).length := ⟨_, rfl⟩
    rw [← hL] at hlc hel ⊢
    replace O1 : Aside0 (Own wr (w.heap.size + 1) 5 .u8 (.slice (some ⟨g1, 0, none⟩) L c1) (endL z)) := ⟨by rw [hL]; exact O1.out⟩
    have hL' := Aside0.mk hL
    have hL2 : L ≤ 64 := by omega
    replace hel := Aside0.mk hel
    clear hL
    by_cases hlt : z < zpad n
    · have q0 : (((n : Int) + (L : Int)) % 64 != 56) = true := bne_iff_ne.2 (by have := hel.out; unfold zpad at hlt; omega)
      go_wp2_with (at_builtin; refine app_blk (k := .u8) (l := endL z) (base := w.heap.size + 1) (g2 := wr.heap.size) (c := 1) (t2 := 5) rfl _ _ 31 rfl Tryd.underlying31 1 info5 _ [0] rfl (O1.out.alloc _) rfl (Blk.at0 _ _ _ _ _ rfl) (by omega) (by rw [← hL'.out]; simp; omega) (by simp; omega) ?_; intro v' w' h1 h2 h3)
      refine ⟨⟨z + 1, hlt, ⟨by rw [endL_more]; exact h1⟩, ⟨(B2.out.alloc _).grown h2 (by intro h; have h := Option.some.inj h; change w.heap.size = g1 at h; omega)⟩, ⟨(L2.out.alloc L2.out.size _).grown h2 (by have := L2.out.size; simp; omega) (own_base (O1.out.lower (Nat.le_succ _)).out)⟩, ?_⟩, ?_⟩
      · have := h2.size; simp at this; omega
      · obtain ⟨g2, c2, rfl, _⟩ := h1.readsC (by simp) (by simp; rw [← hL'.out]; omega)
        simp [slLen]
        rw [← hL'.out]
        omega
    · obtain rfl : z = zpad n := by omega
      have q0 : (((n : Int) + (L : Int)) % 64 != 56) = false := by
        rw [bne_eq_false_iff_eq]
        have := hel.out
        unfold zpad at this
        omega
      obtain ⟨E, hE⟩ : ∃ E, E = endL (zpad n) := ⟨_, rfl⟩
      have hEl : E.length = L := by rw [hE]; exact hL'.out.symm
      rw [← hE] at O1
      replace hE := Aside0.mk hE
      replace hEl := Aside0.mk hEl
      clear hlt hz
      go_wp2
      obtain ⟨wo, rfl⟩ : ∃ wo : World, wo = wr := ⟨_, rfl⟩
      go_loopw [5, 6] (fun v i wr => ∃ (j : Nat) (x : Int), j ≤ 8 ∧ x = 56 - 8 * (j : Int) ∧ i = .int .i64 x ∧ Aside0 (Own wr (w.heap.size + 1) 5 .u8 v (E ++ be8N (n * 8) j)) ∧ Aside0 (Bk wr w.heap.size 67 (hashCells bg s p n)) ∧ Aside0 (Below w.heap.size w wr) ∧ w.heap.size + 1 ≤ wr.heap.size) (fun _ i _ => (intOf i + 8).toNat)
      case atStart => exact ⟨0, 56, by omega, rfl, rfl, ⟨by rw [be8N, List.append_nil]; exact O1.out⟩, B2, L2, z3⟩
      case round =>
        clear O1 B2 L2 z3 hg1 hlc
        obtain ⟨j, x, hj, hx, rfl, O1, B2, L2, z3⟩ := hrel
        by_cases hlt2 : j < 8
        · have q1 : (0 ≤ x) = True := eq_true (by omega)
          have x1 : x ≤ 56 := by omega
          have hbl := Aside0.mk (be8N_length (n * 8) j)
          go_wp2_with (at_builtin; refine app_blk (k := .u8) (l := E ++ be8N (n * 8) j) (base := w.heap.size + 1) (g2 := wr.heap.size) (c := 1) (t2 := 5) rfl _ _ 31 rfl Tryd.underlying31 1 info5 _ [(n * 8 : Int) / 2 ^ (56 - 8 * j) % 256] rfl (O1.out.alloc _) rfl (Blk.at0 _ _ _ _ _ rfl) (by omega) (by rw [List.length_append, hEl.out, hbl.out]; simp; omega) (by simp; omega) ?_; intro v' w' h1 h2 h3)
          refine ⟨⟨j + 1, x - 8, by omega, by omega, by rw [hx], ⟨by rw [be8N, ← List.append_assoc]; exact h1⟩, ⟨(B2.out.alloc _).grown h2 ?_⟩, ⟨(L2.out.alloc L2.out.size _).grown h2 (by have := L2.out.size; simp; omega) (own_base (O1.out.lower (Nat.le_succ _)).out)⟩, ?_⟩, ?_⟩
          · exact own_far O1.out.out
          · have := h2.size; simp at this; omega
          · simp [intOf]; omega
        · obtain rfl : j = 8 := by omega
          have q1 : (0 ≤ x) = False := eq_false (by omega)
          obtain ⟨p9, hp9⟩ : ∃ p9, p9 = E ++ be8N (n * 8) 8 := ⟨_, rfl⟩
          have hp9' : p9 = padN m.length := by rw [hp9, hE.out, hn.out]; rfl
          have hp9l : p9.length ≤ 80 := by rw [hp9, List.length_append, hEl.out, be8N_length]; omega
          have hp9m : 0 < p9.length := by rw [hp9, List.length_append, be8N_length]; omega
          rw [← hp9] at O1
          clear hp9
          replace hp9' := Aside0.mk hp9'
          obtain ⟨g2, c2, rfl, hg2, hlc2, hC⟩ := O1.out.readsC hp9m (by omega)
          go_wp2_with fail
          refine (write_any w.heap.size (some ⟨g2, 0, none⟩) c2 m p9 _ ⟨bg, s, p, by rw [hn.out]; exact B2.out, hs.out, hp.out, hb.out.1, hb.out.2⟩ hC hlc2 (Or.inr (by intro ad h; cases h; intro h; have h := Option.some.inj h; change g2 = w.heap.size at h; omega)) (by rw [hn.out]; omega)).mono ?_
          rintro e w5 ⟨rfl, H5, G5⟩
          replace L2 := Aside0.mk (L2.out.grown G5 L2.out.size (fun k hk => by injection hk with hk; omega))
          obtain ⟨s5, p5, B5, HS5⟩ := H5.out
          clear H5 G5
          replace B5 := Aside0.mk B5
          replace HS5 := Aside0.mk HS5
          go_wp2_with (refine load_mid rfl _ _ rfl 1 rfl B5.out (nums .u32 s5) (fun i hi => hash_s true s5 p5 _ HS5.out.s8 i hi) (.array 8 62) (by kernel_rfl) rfl ((show _ = some 8 by kernel_rfl).trans (by simp [nums, HS5.out.s8])) ?_)
          refine (bytes_any s5 _ HS5.out.s8).mono ?_
          rintro e w6 ⟨v6, rfl, O6, L6⟩
          have L7 := Aside0.mk (below_then L2.out L2.out.size L6)
          replace O6 := Aside0.mk (O6.lower L2.out.size)
          clear L6
          go_wp2
          go_ret
          refine ⟨_, rfl, ?_, L7.out⟩
          have hst := HS5.out.st
          rw [hp9'.out, List.length_append] at hst
          rw [shaW, ← hst]
          exact O6.out
end Go.Proofs.YtgdogjnjbinoiaaDoor.Q
