/- The root that leaves and a proof come to: what the program's inner walk gives. -/
import Derived.Test.YtgdogjnjbinoiaaDoorHprove
namespace Go.Proofs.YtgdogjnjbinoiaaDoor.Q
open Go.RowKit Go.Proofs.YtgdogjnjbinoiaaDoorW.PrintWords Go.Proofs.YtgdogjnjbinoiaaDoorW.PrintLast Go.Proofs.YtgdogjnjbinoiaaDoorW.PrintMore Go.Proofs.YtgdogjnjbinoiaaDoor.H
set_option linter.unusedVariables false
set_option linter.unusedSimpArgs false
/-- A part's top, what is left of the proof, and whether it was too short. -/
def topW : Nat → List (List Int) → Int → Int → Nat → Nat → List (List Int) → Bool → List Int × List (List Int) × Bool
  | 0, _, _, _, _, _, p, s => ([], p, s)
  | f + 1, l, i, j, lo, hi, p, s =>
    if decide (j < lo) || decide ((hi : Int) - 1 < i) then (if p.length = 0 then ([], p, true) else (rd_L1 p 0, p.drop 1, s))
    else if decide (i ≤ lo) && decide ((hi : Int) - 1 ≤ j) then (rootW ((l.take ((hi : Int) - i).toNat).drop ((lo : Int) - i).toNat), p, s)
    else
      let a := topW f l i j lo (lo + halfW (hi - lo)) p s
      let b := topW f l i j (lo + halfW (hi - lo)) hi a.2.1 a.2.2
      if b.2.2 then ([], b.2.1, b.2.2) else (nodeW a.1 b.1, b.2.1, b.2.2)
theorem Small.drop1 {p : List (List Int)} (h : Small p) (n : Nat) : Small (p.drop n) := fun x hx => h x (List.mem_of_mem_drop hx)
theorem root_len {l : List (List Int)} (hs : Small l) (hl : l.length ≤ 1000) : (rootW l).length ≤ 1000000 := by
  rw [rootW]
  split
  · rw [shaW_length]; decide
  · exact small_rd (Small.joins _ (topsW_small hs _)) 0
theorem topW_small : ∀ (f : Nat) (l : List (List Int)) (i j : Int) (lo hi : Nat) (p : List (List Int)) (s : Bool), Small l → l.length ≤ 1000 → Small p → (topW f l i j lo hi p s).1.length ≤ 1000000 ∧ Small (topW f l i j lo hi p s).2.1 ∧ (topW f l i j lo hi p s).2.1.length ≤ p.length
  | 0, l, i, j, lo, hi, p, s, hs, hl, hp => ⟨by simp [topW], hp, Nat.le_refl _⟩
  | f + 1, l, i, j, lo, hi, p, s, hs, hl, hp => by
    rw [topW]
    split
    · split
      · exact ⟨by simp, hp, Nat.le_refl _⟩
      · exact ⟨small_rd hp 0, hp.drop1 1, by simp⟩
    · split
      · refine ⟨root_len (fun x hx => hs x (List.mem_of_mem_take (List.mem_of_mem_drop hx))) ?_, hp, Nat.le_refl _⟩
        rw [List.length_drop, List.length_take]
        omega
      · obtain ⟨a1, a2, a3⟩ := topW_small f l i j lo (lo + halfW (hi - lo)) p s hs hl hp
        obtain ⟨b1, b2, b3⟩ := topW_small f l i j (lo + halfW (hi - lo)) hi _ (topW f l i j lo (lo + halfW (hi - lo)) p s).2.2 hs hl a2
        dsimp only
        split
        · exact ⟨by simp, b2, Nat.le_trans b3 a3⟩
        · exact ⟨by rw [nodeW, shaW_length]; decide, b2, Nat.le_trans b3 a3⟩
/-- All stays but the blocks B + 2 and B + 4. -/
structure KeepR (B : Nat) (w w' : World) : Prop where
  os : w'.os = w.os
  tape : w'.tape = w.tape
  output : w'.output = w.output
  size : w.heap.size ≤ w'.heap.size
  block : ∀ k, k < w.heap.size → k ≠ B + 2 → k ≠ B + 4 → w'.heap[k]? = w.heap[k]?
theorem KeepR.refl (B : Nat) (w : World) : KeepR B w w := ⟨rfl, rfl, rfl, Nat.le_refl _, fun _ _ _ _ => rfl⟩
theorem KeepR.trans {B : Nat} {a b c : World} (h : KeepR B a b) (k : KeepR B b c) : KeepR B a c := ⟨k.os.trans h.os, k.tape.trans h.tape, k.output.trans h.output, Nat.le_trans h.size k.size, fun x hx h2 h4 => (k.block x (Nat.lt_of_lt_of_le hx h.size) h2 h4).trans (h.block x hx h2 h4)⟩
theorem KeepR.of_below {B n : Nat} {w w' : World} (h : Below n w w') (hn : w.heap.size ≤ n) : KeepR B w w' := ⟨h.os, h.tape, h.output, h.size, fun k hk _ _ => h.block k (Nat.lt_of_lt_of_le hk hn)⟩
theorem KeepR.set2 {B : Nat} {a b : World} (h : KeepR B a b) (v : Value) : KeepR B a (b.setCell ⟨B + 2, 0, none⟩ v) := ⟨h.os, h.tape, h.output, by simpa using h.size, fun k hk h2 h4 => (heap_setCell_other b ⟨B + 2, 0, none⟩ k v h2).trans (h.block k hk h2 h4)⟩
theorem KeepR.set4 {B : Nat} {a b : World} (h : KeepR B a b) (v : Value) : KeepR B a (b.setCell ⟨B + 4, 0, none⟩ v) := ⟨h.os, h.tape, h.output, by simpa using h.size, fun k hk h2 h4 => (heap_setCell_other b ⟨B + 4, 0, none⟩ k v h4).trans (h.block k hk h2 h4)⟩
theorem KeepR.low {B : Nat} {w w' : World} (h : KeepR B w w') (hB : B ≤ w.heap.size) : Below B w w' := ⟨h.os, h.tape, h.output, h.size, fun k hk => h.block k (by omega) (by omega) (by omega)⟩
/-- The function that walks, as a value. -/
def topV (B : Nat) : Value := .func (.func 43) #[] #[.pointer (some ⟨B, 0, none⟩), .pointer (some ⟨B + 3, 0, none⟩), .pointer (some ⟨B + 2, 0, none⟩), .pointer (some ⟨B + 4, 0, none⟩), .pointer (some ⟨B + 1, 0, none⟩), .pointer (some ⟨B + 5, 0, none⟩)]
/-- What the walk finds where it is called. -/
structure CtxR (w0 : World) (A2 : Option Addr) (n2 c2 : Nat) (i j : Int) (p : List (List Int)) (s : Bool) (wr : World) : Prop where
  bel : Below w0.heap.size w0 wr
  hI : wr.heap[w0.heap.size]? = some (.cells #[.int .i64 i] 3 (0, 0))
  hL : wr.heap[w0.heap.size + 1]? = some (.cells #[.slice A2 n2 c2] 22 (0, 0))
  hP : ∃ A c, wr.heap[w0.heap.size + 2]? = some (.cells #[.slice A p.length c] 22 (0, 0)) ∧ p.length ≤ c ∧ Kd.C (Kd.slice 5 (Kd.int .u8)) w0 A p.length p
  hJ : wr.heap[w0.heap.size + 3]? = some (.cells #[.int .i64 j] 3 (0, 0))
  hS : wr.heap[w0.heap.size + 4]? = some (.cells #[.bool s] 4 (0, 0))
  hF : wr.heap[w0.heap.size + 5]? = some (.cells #[topV w0.heap.size] 58 (0, 0))
theorem CtxR.below {w0 : World} {A2 : Option Addr} {n2 c2 : Nat} {i j : Int} {p : List (List Int)} {s : Bool} {w w' : World} (h : CtxR w0 A2 n2 c2 i j p s w) {n : Nat} (k : Below n w w') (hn : w.heap.size ≤ n) : CtxR w0 A2 n2 c2 i j p s w' := by
  have hz : w0.heap.size + 5 < w.heap.size := (Array.getElem?_eq_some_iff.1 h.hF).1
  obtain ⟨A, c, h1, h2, h3⟩ := h.hP
  exact ⟨h.bel.trans (k.mono (by omega)), (k.block _ (by omega)).trans h.hI, (k.block _ (by omega)).trans h.hL, ⟨A, c, (k.block _ (by omega)).trans h1, h2, h3⟩, (k.block _ (by omega)).trans h.hJ, (k.block _ (by omega)).trans h.hS, (k.block _ (by omega)).trans h.hF⟩
/-- Bytes that are read lie in none of the variables' blocks. -/
theorem C_keepR {w0 : World} {A2 : Option Addr} {n2 c2 : Nat} {i j : Int} {p : List (List Int)} {s : Bool} {w w' : World} (h : CtxR w0 A2 n2 c2 i j p s w) (k : KeepR w0.heap.size w w') {A : Option Addr} {l : List Int} (hC : Kd.C (Kd.int .u8) w A l.length l) : Kd.C (Kd.int .u8) w' A l.length l := by
  refine ⟨hC.1, hC.2.1, fun hp => ?_⟩
  obtain ⟨ad, e, hc⟩ := hC.2.2 hp
  refine ⟨ad, e, fun m x hm => ?_⟩
  obtain ⟨c, c1, c2, c3⟩ := hc m x hm
  refine ⟨c, c1, c2, fun q u hu => ?_⟩
  have h1 := c3 q u hu
  have hint : u = .int .u8 x := by
    have c2' : c = [.int .u8 x] := c2
    rw [c2'] at hu
    match q, hu with
    | 0, hu => exact (Option.some.inj hu).symm
  have hb := World.block_lt_of_cell? _ _ h1
  rw [hint] at h1 ⊢
  have ne2 : (ad.add (m * (Kd.int .u8).sz + q)).block ≠ w0.heap.size + 2 := fun he => by
    obtain ⟨A', c', hh, _⟩ := h.hP
    rw [← he] at hh
    simp only [World.cell?, hh] at h1
    split at h1 <;> simp at h1
    obtain ⟨hh1, hh2⟩ := List.getElem?_eq_some_iff.1 h1
    simp at hh2
  have ne4 : (ad.add (m * (Kd.int .u8).sz + q)).block ≠ w0.heap.size + 4 := fun he => by
    have hh := h.hS
    rw [← he] at hh
    simp only [World.cell?, hh] at h1
    split at h1 <;> simp at h1
    obtain ⟨hh1, hh2⟩ := List.getElem?_eq_some_iff.1 h1
    simp at hh2
  rw [World.cell?_of_block (k.block _ hb ne2 ne4)]
  exact h1
theorem CtxR.setS {w0 : World} {A2 : Option Addr} {n2 c2 : Nat} {i j : Int} {p : List (List Int)} {s : Bool} {w : World} (h : CtxR w0 A2 n2 c2 i j p s w) (v : Bool) : CtxR w0 A2 n2 c2 i j p v (w.setCell ⟨w0.heap.size + 4, 0, none⟩ (.bool v)) := by
  obtain ⟨A, c, h1, h2, h3⟩ := h.hP
  have o : ∀ k, k ≠ w0.heap.size + 4 → (w.setCell ⟨w0.heap.size + 4, 0, none⟩ (.bool v)).heap[k]? = w.heap[k]? := fun k hk => heap_setCell_other w ⟨w0.heap.size + 4, 0, none⟩ k (.bool v) hk
  exact ⟨h.bel.setCell (p := ⟨w0.heap.size + 4, 0, none⟩) (by show w0.heap.size ≤ w0.heap.size + 4; omega) _, (o _ (by omega)).trans h.hI, (o _ (by omega)).trans h.hL, ⟨A, c, (o _ (by omega)).trans h1, h2, h3⟩, (o _ (by omega)).trans h.hJ, one_setCell h.hS, (o _ (by omega)).trans h.hF⟩
theorem CtxR.setP {w0 : World} {A2 : Option Addr} {n2 c2 : Nat} {i j : Int} {p : List (List Int)} {s : Bool} {w : World} (h : CtxR w0 A2 n2 c2 i j p s w) (q : List (List Int)) (A' : Option Addr) (c' : Nat) (hq : q.length ≤ c') (hC : Kd.C (Kd.slice 5 (Kd.int .u8)) w0 A' q.length q) : CtxR w0 A2 n2 c2 i j q s (w.setCell ⟨w0.heap.size + 2, 0, none⟩ (.slice A' q.length c')) := by
  obtain ⟨A, c, h1, h2, h3⟩ := h.hP
  have o : ∀ k, k ≠ w0.heap.size + 2 → (w.setCell ⟨w0.heap.size + 2, 0, none⟩ (.slice A' q.length c')).heap[k]? = w.heap[k]? := fun k hk => heap_setCell_other w ⟨w0.heap.size + 2, 0, none⟩ k _ hk
  exact ⟨h.bel.setCell (p := ⟨w0.heap.size + 2, 0, none⟩) (by show w0.heap.size ≤ w0.heap.size + 2; omega) _, (o _ (by omega)).trans h.hI, (o _ (by omega)).trans h.hL, ⟨A', c', one_setCell h1, hq, hC⟩, (o _ (by omega)).trans h.hJ, (o _ (by omega)).trans h.hS, (o _ (by omega)).trans h.hF⟩
set_option maxHeartbeats 2000000 in
set_option maxRecDepth 100000 in
theorem top_any (A2 : Option Addr) (c2 : Nat) (l : List (List Int)) (i j : Int) (w0 : World) (hr2 : Kd.C (Kd.slice 5 (Kd.int .u8)) w0 A2 l.length l) (hc2 : l.length ≤ c2) (hn : l.length ≤ 1000) (hs : Small l) (ht : TabAt w0) (hi0 : 0 ≤ i) (hi1 : i ≤ 1048576) (hj : j = i + l.length - 1) :
    ∀ (f lo hi : Nat) (p : List (List Int)) (s : Bool) (wr : World), hi - lo ≤ f → lo < hi → hi ≤ 1048576 → p.length ≤ 1000000 → Small p → CtxR w0 A2 l.length c2 i j p s wr →
    Calls Tryd.prog 43 #[partV lo hi, .pointer (some ⟨w0.heap.size, 0, none⟩), .pointer (some ⟨w0.heap.size + 3, 0, none⟩), .pointer (some ⟨w0.heap.size + 2, 0, none⟩), .pointer (some ⟨w0.heap.size + 4, 0, none⟩), .pointer (some ⟨w0.heap.size + 1, 0, none⟩), .pointer (some ⟨w0.heap.size + 5, 0, none⟩)] wr fun e w' =>
      ∃ A c, e = .returned (.slice A (topW f l i j lo hi p s).1.length c) ∧ (topW f l i j lo hi p s).1.length ≤ c ∧ Kd.C (Kd.int .u8) w' A (topW f l i j lo hi p s).1.length (topW f l i j lo hi p s).1 ∧ CtxR w0 A2 l.length c2 i j (topW f l i j lo hi p s).2.1 (topW f l i j lo hi p s).2.2 w' ∧ KeepR w0.heap.size wr w' := by
  intro f
  induction f with
  | zero => intro lo hi p s wr h1 h2; omega
  | succ f ih =>
    intro lo hi p s wr hf hlo hhi hpl hps hC
    have HR := Aside0.mk hr2
    have HT := Aside0.mk ht
    have IH := Aside0.mk ih
    have HJ := Aside0.mk hj
    have hCX := Aside0.mk hC
    have HSM := Aside0.mk hs
    have HPS := Aside0.mk hps
    have hsz : w0.heap.size + 5 < wr.heap.size := (Array.getElem?_eq_some_iff.1 hC.hF).1
    have K1 := Aside0.mk ((Below.refl wr.heap.size wr).alloc (Nat.le_refl _) (.cells #[.int .i64 lo, .int .i64 hi] 50))
    have N1 := Aside0.mk (heap_alloc_new wr (.cells #[.int .i64 lo, .int .i64 hi] 50))
    have hcI := cell_of_one (hC.below K1.out (Nat.le_refl _)).hI
    have hcJ := cell_of_one (hC.below K1.out (Nat.le_refl _)).hJ
    have hz1 : (wr.alloc (.cells #[.int .i64 lo, .int .i64 hi] 50)).heap.size = wr.heap.size + 1 := by simp
    replace hz1 := Aside0.mk hz1
    clear hr2 ht ih hC hs hps hj
    go_enter Tryd.func43, Tryd.ntmps43
    go_wp2_with fail
    refine (apart_any lo hi i j _ (by omega) (by omega) (by omega) (by omega)).mono ?_
    rintro e w2 ⟨rfl, L2⟩
    rw [hz1.out] at L2
    clear hcI hcJ
    have hw2 := L2.size
    have K2 := Aside0.mk (K1.out.trans (L2.mono (by omega)))
    have N2 := Aside0.mk ((L2.block wr.heap.size (by omega)).trans N1.out)
    have hz2 : wr.heap.size < w2.heap.size := (Array.getElem?_eq_some_iff.1 N2.out).1
    have C2 := Aside0.mk (hCX.out.below K2.out (Nat.le_refl _))
    clear K1 N1 hz1 hw2 L2
    obtain ⟨b, hb⟩ : ∃ b, b = (decide (j < (lo : Int)) || decide ((hi : Int) - 1 < i)) := ⟨_, rfl⟩
    rw [← hb]
    replace hb := Aside0.mk hb
    cases b with
    | true =>
      obtain ⟨Ap, cp, hP, hpc, hCp⟩ := C2.out.hP
      have hcP := cell_of_one hP
      by_cases hp0 : p.length = 0
      · have q0 : (((p.length : Nat) : Int) == 0) = true := by rw [beq_iff_eq]; omega
        have hcS := cell_of_one C2.out.hS
        have hfS := free_of_one C2.out.hS
        have htop := Aside0.mk (show topW (f + 1) l i j lo hi p s = ([], p, true) by rw [topW, if_pos hb.out.symm, if_pos hp0])
        clear hP hpc hCp hp0
        go_wp2
        go_ret
        rw [htop.out]
        exact ⟨none, 0, rfl, Nat.le_refl _, Kd.C_nil _ _, C2.out.setS true, (KeepR.of_below K2.out (Nat.le_refl _)).set4 _⟩
      · have q0 : (((p.length : Nat) : Int) == 0) = false := by rw [beq_eq_false_iff_ne]; omega
        have htop := Aside0.mk (show topW (f + 1) l i j lo hi p s = (rd_L1 p 0, p.drop 1, s) by rw [topW, if_pos hb.out.symm, if_neg hp0])
        obtain ⟨ad, A0, c0, rfl, hx, hxc, hxr⟩ := at_L1 (Kd.C_below hCp C2.out.bel) 0 (by omega) (by omega)
        have hrl := small_rd HPS.out 0
        obtain ⟨i0, hi0', _, hsz0, _⟩ := info_parts info31
        have hcut := cut_from (P := Tryd.prog) 22 31 .i64 Tryd.underlying22 hi0' 1 hsz0 (some ad) p.length cp 1 (by decide) (by omega)
        have hdr := Kd.C_drop (m := 1) (c := cp) hCp (by omega) hpc
        obtain ⟨A3, hA3⟩ : ∃ A3, A3 = (if cp = (1 : Int).toNat then some ad else (some ad).map (·.add ((1 : Int).toNat * 1))) := ⟨_, rfl⟩
        rw [← hA3] at hcut
        replace hdr : Kd.C (Kd.slice 5 (Kd.int .u8)) w0 A3 (p.drop 1).length (p.drop 1) := by rw [hA3]; exact hdr
        have hdl : p.length - (1 : Int).toNat = (p.drop 1).length := by rw [List.length_drop]; rfl
        rw [hdl] at hcut
        have hfP := free_of_one hP
        have HDR := Aside0.mk hdr
        have hxr2 := Aside0.mk hxr
        have hdl2 := Aside0.mk (show (p.drop 1).length ≤ cp - (1 : Int).toNat by rw [List.length_drop]; show p.length - 1 ≤ cp - 1; omega)
        obtain ⟨row, hrow⟩ : ∃ row, row = rd_L1 p 0 := ⟨_, rfl⟩
        rw [← hrow] at hx hxc hxr2 htop hrl
        obtain ⟨pd, hpd⟩ : ∃ pd, pd = p.drop 1 := ⟨_, rfl⟩
        rw [← hpd] at hcut HDR hdl2 htop
        replace hxc := Aside0.mk hxc
        clear hP hCp hxr hdr hdl hrow hpd hA3 hi0' hsz0
        rw [show ad.add (0 : Int).toNat = ad from rfl] at hx
        have p1 : (0 < p.length) = True := eq_true (by omega)
        go_wp2
        go_ret
        rw [htop.out]
        exact ⟨A0, c0, rfl, hxc.out, C_keepR C2.out ((KeepR.refl _ _).set2 _) hxr2.out, C2.out.setP pd A3 (cp - (1 : Int).toNat) hdl2.out HDR.out, (KeepR.of_below K2.out (Nat.le_refl _)).set2 _⟩
    | false =>
      obtain ⟨hp0, hp1⟩ := pair_cells N2.out
      have hcI := cell_of_one C2.out.hI
      have hcJ := cell_of_one C2.out.hJ
      go_wp2_with fail
      refine (within_any lo hi i j _ (by omega) (by omega) (by omega) (by omega)).mono ?_
      rintro e w3 ⟨rfl, L3⟩
      clear hp0 hp1 hcI hcJ
      have K3 := Aside0.mk (K2.out.trans (L3.mono (by omega)))
      have N3 := Aside0.mk ((L3.block wr.heap.size hz2).trans N2.out)
      have hz3 := L3.size
      have C3 := Aside0.mk (C2.out.below L3 (Nat.le_refl _))
      clear K2 N2 L3 C2
      obtain ⟨b2, hb2⟩ : ∃ b2, b2 = (decide (i ≤ (lo : Int)) && decide ((hi : Int) - 1 ≤ j)) := ⟨_, rfl⟩
      rw [← hb2]
      replace hb2 := Aside0.mk hb2
      cases b2 with
      | true =>
        have h5 : i ≤ (lo : Int) ∧ (hi : Int) - i ≤ l.length := by
          have h3 := hb2.out.symm
          have h4 := HJ.out
          rw [Bool.and_eq_true, decide_eq_true_eq, decide_eq_true_eq] at h3
          omega
        obtain ⟨hp0, hp1⟩ := pair_cells N3.out
        have hcI := cell_of_one C3.out.hI
        have hcL := cell_of_one C3.out.hL
        obtain ⟨i0, hi0', _, hsz0, _⟩ := info_parts info31
        have hcut := cut_mid (P := Tryd.prog) 22 31 .i64 .i64 Tryd.underlying22 hi0' 1 hsz0 A2 l.length c2 ((lo : Int) - i) ((hi : Int) - i) (by omega) (by omega) (by omega) hc2
        have hmid := Kd.C_mid (lo := ((lo : Int) - i).toNat) (hi := ((hi : Int) - i).toNat) (c := c2) (Kd.C_below HR.out C3.out.bel) (by omega) (by omega) hc2
        rw [show ((lo : Int) - i).toNat * (Kd.slice 5 (Kd.int .u8)).sz = ((lo : Int) - i).toNat * 1 from rfl] at hmid
        obtain ⟨A1, hA1⟩ : ∃ A1, A1 = (if c2 = ((lo : Int) - i).toNat then A2 else A2.map (·.add (((lo : Int) - i).toNat * 1))) := ⟨_, rfl⟩
        rw [← hA1] at hcut hmid
        have hxl : ((l.take ((hi : Int) - i).toNat).drop ((lo : Int) - i).toNat).length = ((hi : Int) - i).toNat - ((lo : Int) - i).toNat := by rw [List.length_drop, List.length_take]; omega
        have htop := Aside0.mk (show topW (f + 1) l i j lo hi p s = (rootW ((l.take ((hi : Int) - i).toNat).drop ((lo : Int) - i).toNat), p, s) by rw [topW, if_neg (by rw [← hb.out]; decide), if_pos hb2.out.symm])
        have hsm : Small ((l.take ((hi : Int) - i).toNat).drop ((lo : Int) - i).toNat) := fun x hx => HSM.out x (List.mem_of_mem_take (List.mem_of_mem_drop hx))
        obtain ⟨xs, hxe⟩ : ∃ xs, xs = (l.take ((hi : Int) - i).toNat).drop ((lo : Int) - i).toNat := ⟨_, rfl⟩
        rw [← hxe] at hmid hxl htop hsm
        rw [← hxl] at hcut
        have hcl : xs.length ≤ c2 - ((lo : Int) - i).toNat := by omega
        obtain ⟨cc, hcc⟩ : ∃ cc, cc = c2 - ((lo : Int) - i).toNat := ⟨_, rfl⟩
        rw [← hcc] at hcut hcl
        have hxl2 : xs.length ≤ 1000 := by omega
        have M3 := Aside0.mk hmid
        have hlo0 : (0 : Int) ≤ (lo : Int) - i := by omega
        clear hxe hA1 hmid hi0' hsz0 hxl hcc
        go_wp2_with fail
        refine (root_any A1 cc xs _ M3.out hcl hxl2 hsm (HT.out.below C3.out.bel (Nat.le_refl _))).mono ?_
        rintro e w4 ⟨v1, rfl, O4, L4⟩
        obtain ⟨A4, c4, rfl⟩ := Kd.R_slice O4
        have HO := Aside0.mk (Kd.R_reads' O4).2.2
        have HOc := Aside0.mk (Kd.R_reads' O4).2.1
        clear O4
        go_wp2
        go_ret
        rw [htop.out]
        exact ⟨A4, c4, rfl, HOc.out, HO.out, C3.out.below L4 (Nat.le_refl _), (KeepR.of_below K3.out (Nat.le_refl _)).trans (KeepR.of_below L4 (Nat.le_refl _))⟩
      | false =>
        obtain ⟨hp0, hp1⟩ := pair_cells N3.out
        have h2 : lo + 2 ≤ hi := by
          have h3 := hb2.out.symm
          have h4 := hb.out.symm
          rw [Bool.and_eq_false_iff, decide_eq_false_iff_not, decide_eq_false_iff_not] at h3
          rw [Bool.or_eq_false_iff, decide_eq_false_iff_not, decide_eq_false_iff_not] at h4
          omega
        have hk1 := halfW_lt (hi - lo) (by omega)
        have hk2 := halfW_pos (hi - lo)
        have hsp := Aside0.mk (split_any lo hi w3 h2 (by omega))
        have htop : topW (f + 1) l i j lo hi p s = (let a := topW f l i j lo (lo + halfW (hi - lo)) p s; let b := topW f l i j (lo + halfW (hi - lo)) hi a.2.1 a.2.2; if b.2.2 then ([], b.2.1, b.2.2) else (nodeW a.1 b.1, b.2.1, b.2.2)) := by rw [topW, if_neg (by rw [← hb.out]; decide), if_neg (by rw [← hb2.out]; decide)]
        obtain ⟨m, hm⟩ : ∃ m, m = lo + halfW (hi - lo) := ⟨_, rfl⟩
        rw [← hm] at htop hsp
        have hm1 : lo < m := by omega
        have hm2 : m < hi := by omega
        obtain ⟨sa1, sa2, sa3⟩ := topW_small f l i j lo m p s HSM.out hn HPS.out
        have ih1 := fun wr => IH.out lo m p s wr (by omega) hm1 (by omega) hpl HPS.out
        obtain ⟨⟨ra, pa, sa⟩, ha⟩ : ∃ a, a = topW f l i j lo m p s := ⟨_, rfl⟩
        rw [← ha] at htop ih1 sa1 sa2 sa3
        dsimp only at htop ih1 sa1 sa2 sa3
        obtain ⟨sb1, sb2, sb3⟩ := topW_small f l i j m hi pa sa HSM.out hn sa2
        have ih2 := fun wr => IH.out m hi pa sa wr (by omega) hm2 (by omega) (by omega) sa2
        obtain ⟨⟨rb, pb, sb⟩, hbb⟩ : ∃ b, b = topW f l i j m hi pa sa := ⟨_, rfl⟩
        rw [← hbb] at htop ih2 sb1 sb2 sb3
        dsimp only at htop ih2 sb1 sb2 sb3
        replace htop := Aside0.mk htop
        replace ih1 := Aside0.mk ih1
        replace ih2 := Aside0.mk ih2
        clear hm hk1 hk2 ha hbb sa2 sb2 sb3
        go_wp2_with fail
        refine hsp.out.mono ?_
        rintro e w4 ⟨rfl, L4⟩
        clear hp0 hp1
        obtain ⟨nA, nB, L5, hz5⟩ := two_new w4 (.cells #[.int .i64 lo, .int .i64 m] 50) (.cells #[.int .i64 m, .int .i64 hi] 50)
        have K4 := Aside0.mk ((KeepR.of_below (B := w0.heap.size) K3.out (Nat.le_refl _)).trans ((KeepR.of_below L4 (Nat.le_refl _)).trans (KeepR.of_below L5 (Nat.le_refl _))))
        have C5 := Aside0.mk ((C3.out.below L4 (Nat.le_refl _)).below L5 (Nat.le_refl _))
        have hcF := cell_of_one C5.out.hF
        unfold topV at hcF
        have NB := Aside0.mk nB
        have hz6 : w4.heap.size + 1 ≠ w0.heap.size + 2 := by have := L4.size; omega
        have hz7 : w4.heap.size + 1 ≠ w0.heap.size + 4 := by have := L4.size; omega
        have hz8 := Aside0.mk (show w4.heap.size + 1 < ((w4.alloc (.cells #[.int .i64 lo, .int .i64 m] 50)).alloc (.cells #[.int .i64 m, .int .i64 hi] 50)).heap.size by rw [hz5]; omega)
        clear nA nB L5 L4 hz5 C3 K3 N3
        go_wp2_with fail
        refine (ih1.out _ C5.out).mono ?_
        rintro e w6 ⟨A6, c6, rfl, hc6, hC6, C6, K6⟩
        have N6 := (K6.block _ hz8.out hz6 hz7).trans NB.out
        have K46 := Aside0.mk (K4.out.trans K6)
        obtain ⟨hp0, hp1⟩ := pair_cells N6
        clear hcF
        have hcF := cell_of_one C6.hF
        unfold topV at hcF
        replace C6 := Aside0.mk C6
        replace hC6 := Aside0.mk hC6
        replace hc6 := Aside0.mk hc6
        clear C5 K4 NB N6 K6 hz8
        go_wp2_with fail
        refine (ih2.out _ C6.out).mono ?_
        rintro e w7 ⟨A7, c7, rfl, hc7, hC7, C7, K7⟩
        have hA6 := Aside0.mk (C_keepR C6.out K7 hC6.out)
        clear hcF hp0 hp1
        have hcS := cell_of_one C7.hS
        have K67 := Aside0.mk (K46.out.trans K7)
        replace C7 := Aside0.mk C7
        replace hC7 := Aside0.mk hC7
        replace hc7 := Aside0.mk hc7
        clear K7 K46 C6 hC6
        cases sb with
        | true =>
          go_wp2
          go_ret
          rw [htop.out]
          exact ⟨none, 0, rfl, Nat.le_refl _, Kd.C_nil _ _, C7.out, K67.out⟩
        | false =>
          go_wp2_with fail
          refine (node_any A6 A7 c6 c7 ra rb w7 hA6.out hc6.out hC7.out hc7.out sa1 sb1).mono ?_
          rintro e w8 ⟨v1, rfl, O8, L8⟩
          obtain ⟨A8, c8, rfl⟩ := Kd.R_slice O8.toR
          have HO := Aside0.mk (Kd.R_reads' O8.toR).2.2
          have HOc := Aside0.mk (Kd.R_reads' O8.toR).2.1
          clear O8
          go_wp2
          go_ret
          rw [htop.out]
          exact ⟨A8, c8, rfl, HOc.out, HO.out, C7.out.below L8 (Nat.le_refl _), K67.out.trans (KeepR.of_below L8 (Nat.le_refl _))⟩
end Go.Proofs.YtgdogjnjbinoiaaDoor.Q
