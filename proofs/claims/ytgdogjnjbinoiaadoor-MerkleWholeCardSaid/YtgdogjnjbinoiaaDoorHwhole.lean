/- The law MerkleWhole walked: for every list of leaves the call answers true. -/
import Derived.Test.YtgdogjnjbinoiaaDoorHmz2
import Derived.Test.YtgdogjnjbinoiaaDoorHMerkleHolds
import Derived.Test.YtgdogjnjbinoiaaDoorCmerkw
import Derived.Test.YtgdogjnjbinoiaaDoorCmreb
import Derived.Test.YtgdogjnjbinoiaaDoorCmproveX
import Derived.Test.YtgdogjnjbinoiaaDoorCfew
import Derived.Test.YtgdogjnjbinoiaaDoorCref20
import Derived.Test.YtgdogjnjbinoiaaDoorCref01
namespace Go.Proofs.YtgdogjnjbinoiaaDoor.Q
open Go.RowKit Go.Proofs.YtgdogjnjbinoiaaDoorW.PrintWords Go.Proofs.YtgdogjnjbinoiaaDoorW.PrintLast Go.Proofs.YtgdogjnjbinoiaaDoorW.PrintMore Go.Proofs.YtgdogjnjbinoiaaDoor.F
set_option linter.unusedVariables false
set_option linter.unusedSimpArgs false
/-- All leaves and no proof come to the root. -/
theorem whole_root (l : List (List Int)) (hl : l.length ≤ 1000) (h0 : 1 ≤ l.length) : rebuildW (l.length : Int) 0 l [] = (rootW l, 0) := by
  have h := holds_root l hl 0 (l.length - 1) (by omega) (by omega)
  have hp : (proveW l ((0 : Nat) : Int) ((l.length - 1 : Nat) : Int)).1 = [] := by
    rw [proveW, if_neg (by omega)]
    obtain ⟨n, hn⟩ : ∃ n, l.length = n + 1 := ⟨l.length - 1, by omega⟩
    show walkW l.length l 0 l.length _ _ = []
    rw [hn, walkW, if_pos (dec_and.mpr ⟨by omega, by omega⟩)]
  rw [hp, show l.length - 1 + 1 = l.length by omega, List.take_length, List.drop_zero] at h
  exact h
theorem whole_more (l : List (List Int)) (h0 : 1 ≤ l.length) (hl : l.length ≤ 1000) (r : List Int) : rebuildW (l.length : Int) 0 l [r] = ([], 8) := by
  have h := rebuildW_ok l.length 0 l [r] (by omega) (by omega) h0 (by omega)
  rw [if_neg] at h
  · exact h
  · obtain ⟨n, hn⟩ : ∃ n, l.length = n + 1 := ⟨l.length - 1, by omega⟩
    rw [hn, manyW, if_pos (dec_and.mpr ⟨by omega, by omega⟩)]
    simp
/-- A row of rows, put together out of its cells. -/
theorem C_of_rows {w : World} {g : Nat} {l : List (List Int)} (hm : l.length ≤ 9223372036854775807) (h : ∀ j, j < l.length → ∃ A c, w.cell? ⟨g, j, none⟩ = some (.slice A (rd_L1 l (j : Nat)).length c) ∧ (rd_L1 l (j : Nat)).length ≤ c ∧ Kd.C (Kd.int .u8) w A (rd_L1 l (j : Nat)).length (rd_L1 l (j : Nat))) :
    Kd.C (Kd.slice 5 (Kd.int .u8)) w (some ⟨g, 0, none⟩) l.length l := by
  refine ⟨rfl, hm, fun _ => ⟨⟨g, 0, none⟩, rfl, fun j p hj => ?_⟩⟩
  obtain ⟨hjl, hjp⟩ := List.getElem?_eq_some_iff.1 hj
  obtain ⟨A, c, h1, h2, h3⟩ := h j hjl
  rw [rd_L1_nat l j hjl, hjp] at h1 h2 h3
  refine ⟨[.slice A p.length c], rfl, ⟨A, c, rfl, h2, h3⟩, fun i u hu => ?_⟩
  match i, hu with
  | 0, hu =>
    obtain rfl := Option.some.inj hu
    have : (⟨g, 0, none⟩ : Addr).add (j * (Kd.slice 5 (Kd.int .u8)).sz + 0) = ⟨g, j, none⟩ := by
      show (⟨g, 0, none⟩ : Addr).add (j * 1 + 0) = _
      rw [add_at]
      congr 1
      omega
    rw [this]
    exact h1
/-- A row of rows of the call's own: each row's cell, and where it lies. -/
theorem N_rows {w : World} {base g n cap : Nat} {l : List (List Int)} (h : Kd.N (Kd.slice 5 (Kd.int .u8)) 31 w base (fun _ => True) (.slice (some ⟨g, 0, none⟩) n cap) l) : ∀ j, j < l.length →
    ∃ A c, w.cell? ⟨g, j, none⟩ = some (.slice A (rd_L1 l (j : Nat)).length c) ∧ w.frozen? ⟨g, j, none⟩ = false ∧ (rd_L1 l (j : Nat)).length ≤ c ∧ Kd.F (Kd.int .u8) w (fun k => k ≠ g ∧ k < w.heap.size) A (rd_L1 l (j : Nat)).length (rd_L1 l (j : Nat)) := by
  intro j hj
  have hn := (Kd.N_reads' h).1
  obtain ⟨c, hcl, hF, hcc, hfr⟩ := Kd.N_elem h ([] : List Int) (j : Int) (by omega) (by omega)
  rw [Int.toNat_natCast] at hF hcc hfr
  have e1 : l.getD j [] = rd_L1 l (j : Nat) := by simp [rd_L1]
  rw [e1] at hF
  obtain ⟨A, cc, hc, hle, _⟩ := Kd.FK_now hF
  have e2 : j * (Kd.slice 5 (Kd.int .u8)).sz + 0 = j := by show j * 1 + 0 = j; omega
  refine ⟨A, cc, ?_, ?_, hle, fun W' hW => ?_⟩
  · have := hcc 0 _ (by rw [hc]; rfl)
    rw [e2] at this
    exact this
  · have := hfr 0
    rw [e2] at this
    exact this
  · obtain ⟨A', c', hc', _, h3⟩ := hF W' (fun k hk hlt => hW k ⟨hk.2, hlt⟩ hlt)
    rw [hc] at hc'
    injection hc' with hc' _
    injection hc' with hc' _ _
    rw [hc']
    exact h3
theorem frozen_below {w w' : World} {B g : Nat} (h : Below B w w') (hg : g < B) (j : Nat) : w'.frozen? ⟨g, j, none⟩ = w.frozen? ⟨g, j, none⟩ := by
  simp [World.frozen?, h.block g hg]
/-! ### the walk -/
theorem and_low (n : Int) : 0 ≤ Go.bits .and .i64 n 65535 ∧ Go.bits .and .i64 n 65535 < 65536 := by
  have h6 : (BitVec.ofInt 64 65535).toNat = 2 ^ 16 - 1 := by decide
  have key : (BitVec.ofInt 64 n &&& BitVec.ofInt 64 65535).toNat = (n % ((2 ^ 64 : Nat) : Int)).toNat % 2 ^ 16 := by
    rw [BitVec.toNat_and, BitVec.toNat_ofInt, h6, Nat.and_two_pow_sub_one_eq_mod]
  have h : Go.bits .and .i64 n 65535 = IntKind.i64.wrap ((BitVec.ofInt 64 n &&& BitVec.ofInt 64 65535).toNat : Nat) := rfl
  rw [h, key, IntKind.wrap_i64]
  omega
/-- The rows behind one that was put in another's place. -/
theorem rows_set {w7 W : World} {g kk : Nat} {l : List (List Int)} {row : List Int} (hm : l.length ≤ 1000) (E2 : ∀ j, j < l.length → ∃ A c, w7.cell? ⟨g, j, none⟩ = some (.slice A (rd_L1 l (j : Nat)).length c) ∧ w7.frozen? ⟨g, j, none⟩ = false ∧ (rd_L1 l (j : Nat)).length ≤ c ∧ Kd.F (Kd.int .u8) w7 (fun k => k ≠ g ∧ k < w7.heap.size) A (rd_L1 l (j : Nat)).length (rd_L1 l (j : Nat)))
    (hsame : ∀ j, j ≠ kk → W.cell? ⟨g, j, none⟩ = w7.cell? ⟨g, j, none⟩) (hold : ∀ k, k ≠ g → k < w7.heap.size → W.heap[k]? = w7.heap[k]?) (hk : ∃ A c, W.cell? ⟨g, kk, none⟩ = some (.slice A row.length c) ∧ row.length ≤ c ∧ Kd.C (Kd.int .u8) W A row.length row) :
    Kd.C (Kd.slice 5 (Kd.int .u8)) W (some ⟨g, 0, none⟩) (l.set kk row).length (l.set kk row) := by
  refine C_of_rows (by rw [List.length_set]; omega) fun j hj => ?_
  rw [List.length_set] at hj
  by_cases hjk : j = kk
  · subst hjk
    have e : rd_L1 (l.set j row) (j : Nat) = row := by rw [rd_L1_nat _ _ (by rw [List.length_set]; exact hj), List.getElem_set_self]
    rw [e]
    exact hk
  · have e : rd_L1 (l.set kk row) (j : Nat) = rd_L1 l (j : Nat) := by
      rw [rd_L1_nat _ _ (by rw [List.length_set]; exact hj), rd_L1_nat _ _ hj, List.getElem_set_ne (Ne.symm hjk)]
    rw [e]
    obtain ⟨A, c, h1, _, h2, h3⟩ := E2 j hj
    exact ⟨A, c, (hsame j hjk).trans h1, h2, Kd.F_now (Kd.F_step h3 (fun k hk hlt => hold k hk.1 hlt))⟩

set_option maxHeartbeats 8000000 in
set_option maxRecDepth 100000 in
theorem whole_any (A0 : Option Addr) (c0 : Nat) (l0 : List (List Int)) (a1 a2 : Int) (w : World) (hr0 : Kd.C (Kd.slice 5 (Kd.int .u8)) w A0 l0.length l0) (hc0 : l0.length ≤ c0) (hy : AllBytes l0) (htab : TabAt w) :
    Calls Tryd.prog 7 #[.slice A0 l0.length c0, .int .i64 a1, .int .u8 a2] w fun e w' => e = .returned (.bool true) ∧ Below w.heap.size w w' := by
  obtain ⟨ka, Ha⟩ := awake_ev.rounds
  obtain ⟨kf, Hf⟩ := (few_ev l0 70 (by decide)).rounds
  have HR0 := Aside0.mk hr0
  have HC0 := Aside0.mk hc0
  have HT0 := Aside0.mk htab
  have HY := Aside0.mk hy
  replace Ha := Aside0.mk Ha
  clear hr0 hc0 htab hy
  go_enter Tryd.func7, Tryd.ntmps7
  go_wp2_with fail
  refine (casketlaw20_awake.calls ka true w Ha.out HT0.out).mono ?_
  rintro e w1 ⟨rfl, l1⟩
  have L1 := Aside0.mk l1
  clear l1 Ha
  by_cases hf : fewB l0 70 = true
  case neg =>
    have hf' : fewB l0 70 = false := Bool.eq_false_iff.mpr hf
    rw [hf'] at Hf
    replace Hf := Aside0.mk Hf
    clear hf hf'
    go_wp2_with fail
    refine (casketlaw20_few.calls kf A0 c0 l0 70 false w1 (Kd.C_below HR0.out L1.out) HC0.out Hf.out).mono ?_
    rintro e w2 ⟨rfl, ⟨nd, rfl⟩⟩
    go_wp2
    go_ret
    exact ⟨rfl, pw_below_drewN L1.out nd⟩
  obtain ⟨hl, hs⟩ := fewB_small hf
  rw [hf] at Hf
  replace Hf := Aside0.mk Hf
  clear hf
  by_cases h0 : l0.length = 0
  case pos =>
    have q0 : ((l0.length : Int) == 0) = true := by rw [beq_iff_eq]; omega
    clear h0 hl hs
    go_wp2_with fail
    refine (casketlaw20_few.calls kf A0 c0 l0 70 true w1 (Kd.C_below HR0.out L1.out) HC0.out Hf.out).mono ?_
    rintro e w2 ⟨rfl, ⟨nd, rfl⟩⟩
    go_wp2
    go_ret
    exact ⟨rfl, pw_below_drewN L1.out nd⟩
  have q0 : ((l0.length : Int) == 0) = false := by rw [beq_eq_false_iff_ne]; omega
  have hRB1 := Aside0.mk (show merkle_Rebuild.f (l0.length : Int) 0 l0 [] = some (rootW l0, 0) by rw [rebuild_f _ _ _ _ (by omega) hs (by simp) (fun x hx => by cases hx), whole_root l0 (by omega) (by omega)])
  have hrs := rootW_small hs (show l0.length ≤ 1000 by omega)
  have hRB2 := Aside0.mk (show merkle_Rebuild.f (l0.length : Int) 0 l0 [rootW l0] = some ([], 8) by rw [rebuild_f _ _ _ _ (by omega) hs (by simp) (fun x hx => by rw [List.mem_singleton] at hx; rw [hx]; exact hrs), whole_more l0 (by omega) (by omega)])
  have hRT := Aside0.mk (root_f l0 (by omega) hs)
  obtain ⟨kk, hkk, hkl⟩ : ∃ kk : Nat, Int.tmod (Go.bits .and .i64 a1 65535) (l0.length : Int) = (kk : Int) ∧ kk < l0.length := by
    have hm := and_low a1
    obtain ⟨q, hq⟩ : ∃ q : Nat, Go.bits .and .i64 a1 65535 = (q : Int) := ⟨(Go.bits .and .i64 a1 65535).toNat, by omega⟩
    exact ⟨q % l0.length, by rw [hq]; rfl, Nat.mod_lt _ (by omega)⟩
  have p1 : (0 ≤ (kk : Int)) = True := eq_true (by omega)
  have p2 : ((kk : Int) < (l0.length : Int)) = True := eq_true (by omega)
  have hrow := Aside0.mk (show Bytes (rd_L1 l0 (kk : Nat)) from bytes_rdL HY.out _)
  have hrl : (rd_L1 l0 (kk : Nat)).length ≤ 1000000 := small_rd hs _
  go_wp2_with fail
  refine (casketlaw20_few.calls kf A0 c0 l0 70 true w1 (Kd.C_below HR0.out L1.out) HC0.out Hf.out).mono ?_
  rintro e w2 ⟨rfl, ⟨nd, rfl⟩⟩
  have L2 := Aside0.mk (pw_below_drewN L1.out nd)
  generalize w1.drewN nd = w2 at L2 ⊢
  clear L1 Hf
  go_wp2_with fail
  refine (merkle_Rebuild.calls (l0.length : Int) 0 A0 c0 l0 none 0 [] (rootW l0) 0 w2 (Kd.C_below HR0.out L2.out) HC0.out (Kd.C_nil _ _) (Nat.le_refl _) hRB1.out (HT0.out.below L2.out (Nat.le_refl _))).mono ?_
  rintro e w3 ⟨v3, rfl, O3, l3⟩
  have L3 := Aside0.mk (below_step L2.out l3)
  obtain ⟨A3, c3, rfl⟩ := Kd.R_slice O3
  have HV3 := Aside0.mk (Kd.R_reads' O3).2.2
  have HV3c := Aside0.mk (Kd.R_reads' O3).2.1
  have HF3 := Aside0.mk (Kd.R_F O3)
  have HRW := Aside0.mk (Kd.C_below HR0.out L3.out)
  have HT3 := Aside0.mk (show TabAt w3 from HT0.out.below L3.out (Nat.le_refl _))
  have HS := Aside0.mk (Below.refl w3.heap.size w3)
  clear l3 O3 L2 HR0 HT0 hRB1
  go_wp2_with ((with_reducible refine gate_dst (N := 38) rfl ?_); refine Kd.N_lit (Kd.slice 5 (Kd.int .u8)) w3.heap.size 31 ?hg (N' := 38) ?hd (xs := [rootW l0]) (inner := [.slice A3 (rootW l0).length c3]) (ok := (fun _ => True)) (okp := (fun _ => True)) ?hr ?hp (fun _ hk => hk) trivial HS.out (below_size HS.out) (by simp) ?_; (case hd => rfl); (case hg => rfl); (case hr => first | (go_simp; done) | (go_simp; rfl)); (case hp => exact (Reps.one (show Kd.FK (Kd.slice 5 (Kd.int .u8)) _ _ (rootW l0) [.slice A3 (rootW l0).length c3] from Kd.FK_slice_mk HV3c.out HF3.out) (Reps.none _ _))); intro v4 w4 ho hb hg_ hnew_; clear hg_ hnew_; clear HS; have HS := Aside0.mk hb; have HO4 := Aside0.mk ho; clear ho hb; obtain ⟨A4, c4, e4⟩ := Kd.N_slice HO4.out; subst e4)
  refine (merkle_Rebuild.calls (l0.length : Int) 0 A0 c0 l0 A4 c4 [rootW l0] [] 8 w4 (Kd.C_below HRW.out HS.out) HC0.out (Kd.N_reads' HO4.out).2.2 (Kd.N_reads' HO4.out).2.1 hRB2.out (HT3.out.below HS.out (Nat.le_refl _))).mono ?_
  rintro e w5 ⟨v5, rfl, O5, l5⟩
  have n0_ := Aside0.mk (below_step HS.out l5)
  clear HS HO4 l5 O5 hRB2 HF3
  have HS := n0_
  clear n0_

  by_cases hpos : 0 < (rd_L1 l0 (kk : Nat)).length
  case neg =>
    have qp : decide ((0 : Int) < ((rd_L1 l0 (kk : Nat)).length : Int)) = false := decide_eq_false (by omega)
    have hrs2 := hrl
    have hrb2 := hrow
    go_wp2_with (first | ((with_reducible refine gate_dst (N := 47) rfl ?_); refine Kd.N_lit (Kd.slice 5 (Kd.int .u8)) w3.heap.size 31 ?hg (N' := 47) ?hd (xs := ([] : List (List Int))) (inner := []) (ok := (fun _ => True)) (okp := (fun _ => True)) ?hr ?hp (fun _ hk => hk) trivial HS.out (below_size HS.out) (by simp) ?_; (case hd => rfl); (case hg => rfl); (case hr => first | (go_simp; done) | (go_simp; rfl)); (case hp => exact (Reps.none _ _)); intro v6 w6 ho hb hg_ hnew_; clear hg_ hnew_ HS; have HS := Aside0.mk hb; have HO6 := Aside0.mk ho; clear ho hb) | ((with_reducible refine gate_builtin (b := .append) (xs := #[.tmp 47, .tmp 48]) rfl ?_); at_builtin; refine Kd.N_append_rows (Kd.slice 5 (Kd.int .u8)) (w0 := w3) w3.heap.size rfl (.tmp 47) (.tmp 48) 22 31 (.slice none 0 0) 24 rfl Tryd.underlying22 info31 rfl (by decide) (by omega) v6 ([] : List (List Int)) l0 _ _ _ (fun _ => True) (fun k_ => k_ < w3.heap.size) rfl rfl HO6.out ?aR ?aK (fun _ _ => trivial) HS.out (below_size HS.out) ?aL ?_; (case aR => exact Kd.F_below (Kd.C_F (Kd.heap_slice _ (Kd.heap_int _)) HRW.out) HS.out); (case aK => exact fun k_ hk_ => ⟨trivial, fun he_ => Nat.lt_irrefl _ (Nat.lt_of_lt_of_le hk_ (Kd.N_base HO6.out k_ he_.symm))⟩); (case aL => simp only [List.length_nil]; omega); intro v7 w7 ho hb hg hat; clear hg hat HS HO6; have HS := Aside0.mk hb; rw [List.nil_append] at ho; obtain ⟨g, cap, e7, hg1, hg2, _⟩ := Kd.N_form ho (by omega); subst e7; have E2 := Aside0.mk (N_rows ho); have G8 := Aside0.mk (Kd.N_reads' ho).2.1; have G7 := Aside0.mk (And.intro hg1 hg2); clear ho hb hg1 hg2; have HU := Aside0.mk (Below.refl w7.heap.size w7)) | ((with_reducible refine gate_dst (N := 52) rfl ?_); refine Kd.R_lit (Kd.int .u8) (w0 := w7) w7.heap.size 5 ?hg (N := 52) ?hd (xs := ([] : List Int)) (inner := []) (ok := fun _ => True) (okp := fun _ => True) ?hr ?hp (fun _ hk => hk) trivial HU.out (Nat.le_refl _) (by simp) ?_; (case hd => rfl); (case hg => rfl); (case hr => first | (go_simp; done) | (go_simp; rfl)); (case hp => exact (Reps.none _ _)); intro v8 w8 ho hb hg_ hnew_; clear hg_ hnew_ HU; have HU := Aside0.mk hb; have HO8 := Aside0.mk ho; clear ho hb; obtain ⟨ad, Ak, ck, eA, hx, hck, hCk⟩ := at_L1 (Kd.C_below HRW.out (HS.out.trans (HU.out.mono (below_size HS.out)))) (kk : Int) (by omega) (by omega); cases eA; rw [Int.toNat_natCast] at hx; have HCk := Aside0.mk hCk; clear hCk hck) | ((with_reducible refine gate_builtin (b := .append) (xs := #[.tmp 52, .tmp 56]) rfl ?_); at_builtin; refine Kd.R_append_rows (Kd.int .u8) (w0 := w7) w7.heap.size rfl (.tmp 52) (.tmp 56) 31 5 (.int .u8 0) 1 rfl Tryd.underlying31 info5 rfl (by decide) (by omega) v8 ([] : List Int) (rd_L1 l0 (kk : Nat)) _ _ _ (fun _ => True) (fun _ => False) rfl rfl HO8.out HCk.out (fun _ _ h => h) (fun _ h => h.elim) (fun _ _ => trivial) HU.out (below_size HU.out) (by simp only [List.length_nil]; omega) ?_; intro v9 w9 ho hb hg hat; clear hg hat HU HO8 hx HCk; have HU := Aside0.mk hb; rw [List.nil_append] at ho; have HO9 := Aside0.mk ho; clear ho hb; obtain ⟨A9, c9, e9⟩ := Kd.R_slice HO9.out; subst e9; obtain ⟨Ag, cg, hgc0, hgf0, _, _⟩ := E2.out kk hkl; have hgc : w9.cell? ⟨g, kk, none⟩ = some (.slice Ag (rd_L1 l0 (kk : Nat)).length cg) := (HU.out.cell (World.block_lt_of_cell? _ _ hgc0)).trans hgc0; have hgf : w9.frozen? ⟨g, kk, none⟩ = false := (frozen_below HU.out G7.out.2 kk).trans hgf0; clear hgc0 hgf0))
    obtain ⟨W, hW⟩ : ∃ W, W = w9.setCell ⟨g, kk, none⟩ (.slice A9 (rd_L1 l0 (kk : Nat)).length c9) := ⟨_, rfl⟩
    have HW1 : ∀ j, j ≠ kk → W.cell? ⟨g, j, none⟩ = w7.cell? ⟨g, j, none⟩ := fun j hj => by
      rw [hW, World.cell?_setCell_other _ _ _ _ (by intro h; injection h with _ h; exact hj h.symm)]
      exact World.cell?_of_block (HU.out.block _ G7.out.2)
    have HW2 : ∀ k, k ≠ g → k < w7.heap.size → W.heap[k]? = w7.heap[k]? := fun k h1 h2 => by
      rw [hW]
      exact (heap_setCell_other w9 ⟨g, kk, none⟩ k _ h1).trans (HU.out.block k h2)
    have HW3 : ∃ A c, W.cell? ⟨g, kk, none⟩ = some (.slice A (rd_L1 l0 (kk : Nat)).length c) ∧ (rd_L1 l0 (kk : Nat)).length ≤ c ∧ Kd.C (Kd.int .u8) W A (rd_L1 l0 (kk : Nat)).length (rd_L1 l0 (kk : Nat)) := ⟨A9, c9, by rw [hW]; exact World.cell?_setCell_same _ _ _ hgc, (Kd.R_reads' HO9.out).2.1, by
      rw [hW]
      exact Kd.F_now (Kd.F_far (p := ⟨g, kk, none⟩) (Kd.R_F (Kd.R_bound HO9.out)) (fun k hk => by have h1 := hk.2.1; have h2 := G7.out.2; show k ≠ g; omega) _)⟩
    have n0_ := Aside0.mk (show Below w3.heap.size w3 W by rw [hW]; exact (HS.out.trans (HU.out.mono (below_size HS.out))).setCell (p := ⟨g, kk, none⟩) G7.out.1 _)
    clear HS
    have HS := n0_
    rw [← hW]
    clear n0_ hW HU HO9 hgc hgf
    have HM := Aside0.mk (And.intro (show l0.length ≤ cap by exact G8.out) (rows_set (W := W) (row := (rd_L1 l0 (kk : Nat))) (by omega) E2.out HW1 HW2 HW3))
    clear HW1 HW2 HW3 E2

    have hMl : (l0.set kk (rd_L1 l0 (kk : Nat))).length = l0.length := List.length_set
    have hMs : Small (l0.set kk (rd_L1 l0 (kk : Nat))) := fun x hx => by
      rcases List.mem_or_eq_of_mem_set hx with h | h
      · exact hs x h
      · rw [h]; exact hrs2
    have hMy : AllBytes (l0.set kk (rd_L1 l0 (kk : Nat))) := fun x hx => by
      rcases List.mem_or_eq_of_mem_set hx with h | h
      · exact HY.out x h
      · rw [h]; exact hrb2.out
    obtain ⟨M, hM⟩ : ∃ M, M = l0.set kk (rd_L1 l0 (kk : Nat)) := ⟨_, rfl⟩
    rw [← hM] at hMl hMs hMy HM
    clear hM
    have hRB3 := Aside0.mk (show merkle_Rebuild.f (l0.length : Int) 0 M [] = some (rootW M, 0) by rw [rebuild_f _ _ _ _ (by omega) hMs (by simp) (fun x hx => by cases hx), ← hMl, whole_root M (by omega) (by omega)])
    obtain ⟨kr, Hr⟩ := (refroot_ev M.length M rfl (by omega) hMs hMy).rounds
    replace Hr := Aside0.mk Hr
    have hs3 := same13_ev (rootW l0) (rootW l0) (Nat.le_trans hrs (by decide))
    rw [decide_eq_true rfl] at hs3
    obtain ⟨ks, Hs⟩ := hs3.rounds
    replace Hs := Aside0.mk Hs
    have hs4 := same13_ev (rootW M) (rootW M) (Nat.le_trans (rootW_small hMs (by omega)) (by decide))
    rw [decide_eq_true rfl] at hs4
    obtain ⟨kt, Ht⟩ := hs4.rounds
    replace Ht := Aside0.mk Ht
    have hMcap : M.length ≤ cap := by have := HM.out.1; omega
    clear hs3 hs4
    have hcall := merkle_Rebuild.calls (l0.length : Int) 0 (some ⟨g, 0, none⟩) cap M none 0 [] (rootW M) 0 W HM.out.2 hMcap (Kd.C_nil _ _) (Nat.le_refl _) hRB3.out (HT3.out.below HS.out (Nat.le_refl _))
    rw [hMl] at hcall
    refine hcall.mono ?_
    clear hcall
    rintro e w11 ⟨v11, rfl, O11, l11⟩
    have n0_ := Aside0.mk (below_step HS.out l11)
    clear HS
    have HS := n0_
    clear n0_
    have HM11 := Aside0.mk (Kd.C_below HM.out.2 l11)
    replace O11 := Aside0.mk O11
    clear l11 HM
    go_wp2_with fail
    refine (merkle_Root.calls _ c0 l0 (rootW l0) w11 (Kd.C_below HRW.out HS.out) HC0.out hRT.out (HT3.out.below HS.out (Nat.le_refl _))).mono ?_
    rintro e w12 ⟨v12, rfl, O12, l12⟩
    have n0_ := Aside0.mk (below_step HS.out l12)
    clear HS
    have HS := n0_
    clear n0_
    have HM12 := Aside0.mk (Kd.C_below HM11.out l12)
    have O11b := Aside0.mk (Kd.R_below O11.out l12)
    obtain ⟨A12, c12, rfl⟩ := Kd.R_slice O12
    have HV12 := Aside0.mk (Kd.R_reads' O12).2
    clear l12 O11 O12 HM11
    go_wp2_with fail
    refine (casketlaw20_same.calls ks A3 c3 (rootW l0) A12 c12 (rootW l0) true w12 (Kd.C_below HV3.out HS.out) HV3c.out HV12.out.2 HV12.out.1 Hs.out).mono ?_
    rintro e w13 ⟨rfl, ⟨nd2, rfl⟩⟩
    have n0_ := Aside0.mk (pw_below_drewN HS.out nd2)
    have HM13 := Aside0.mk (Kd.C_drewN HM12.out nd2)
    have O13 := Aside0.mk (Kd.R_drewN O11b.out nd2)
    clear HS HM12 O11b HV12
    have HS := n0_
    clear n0_
    generalize w12.drewN nd2 = w13 at HS HM13 O13 ⊢
    go_wp2_with fail
    have hcall := casketref20_Root.calls kr (some ⟨g, 0, none⟩) cap M (rootW M) w13 HM13.out hMcap Hr.out
    rw [hMl] at hcall
    refine hcall.mono ?_
    clear hcall
    rintro e w14 ⟨v14, rfl, O14, l14⟩
    have n0_ := Aside0.mk (below_step HS.out l14)
    clear HS
    have HS := n0_
    clear n0_
    have O15 := Aside0.mk (Kd.R_below O13.out l14)
    obtain ⟨A14, c14, rfl⟩ := Kd.R_slice O14
    obtain ⟨A11, c11, rfl⟩ := Kd.R_slice O15.out
    have HV14 := Aside0.mk (Kd.R_reads' O14).2
    have HV11 := Aside0.mk (Kd.R_reads' O15.out).2
    clear l14 O13 O14 O15 HM13
    go_wp2_with fail
    refine (casketlaw20_same.calls kt A11 c11 (rootW M) A14 c14 (rootW M) true w14 HV11.out.2 HV11.out.1 HV14.out.2 HV14.out.1 Ht.out).mono ?_
    rintro e w15 ⟨rfl, ⟨nd3, rfl⟩⟩
    go_wp2
    go_ret
    exact ⟨rfl, pw_below_drewN (L3.out.trans (HS.out.mono (below_size L3.out))) nd3⟩
  case pos =>
    have qp : decide ((0 : Int) < ((rd_L1 l0 (kk : Nat)).length : Int)) = true := decide_eq_true (by omega)
    have hrs2 : ((rd_L1 l0 (kk : Nat)).set 0 (Go.bits .xor .u8 (rd (rd_L1 l0 (kk : Nat)) 0) a2)).length ≤ 1000000 := by rw [List.length_set]; exact hrl
    have hrb2 := Aside0.mk (show Bytes ((rd_L1 l0 (kk : Nat)).set 0 (Go.bits .xor .u8 (rd (rd_L1 l0 (kk : Nat)) 0) a2)) from fun x hx => by
      rcases List.mem_or_eq_of_mem_set hx with h | h
      · exact hrow.out x h
      · rw [h]; exact xor_byte _ _)
    go_wp2_with (first | ((with_reducible refine gate_dst (N := 47) rfl ?_); refine Kd.N_lit (Kd.slice 5 (Kd.int .u8)) w3.heap.size 31 ?hg (N' := 47) ?hd (xs := ([] : List (List Int))) (inner := []) (ok := (fun _ => True)) (okp := (fun _ => True)) ?hr ?hp (fun _ hk => hk) trivial HS.out (below_size HS.out) (by simp) ?_; (case hd => rfl); (case hg => rfl); (case hr => first | (go_simp; done) | (go_simp; rfl)); (case hp => exact (Reps.none _ _)); intro v6 w6 ho hb hg_ hnew_; clear hg_ hnew_ HS; have HS := Aside0.mk hb; have HO6 := Aside0.mk ho; clear ho hb) | ((with_reducible refine gate_builtin (b := .append) (xs := #[.tmp 47, .tmp 48]) rfl ?_); at_builtin; refine Kd.N_append_rows (Kd.slice 5 (Kd.int .u8)) (w0 := w3) w3.heap.size rfl (.tmp 47) (.tmp 48) 22 31 (.slice none 0 0) 24 rfl Tryd.underlying22 info31 rfl (by decide) (by omega) v6 ([] : List (List Int)) l0 _ _ _ (fun _ => True) (fun k_ => k_ < w3.heap.size) rfl rfl HO6.out ?aR ?aK (fun _ _ => trivial) HS.out (below_size HS.out) ?aL ?_; (case aR => exact Kd.F_below (Kd.C_F (Kd.heap_slice _ (Kd.heap_int _)) HRW.out) HS.out); (case aK => exact fun k_ hk_ => ⟨trivial, fun he_ => Nat.lt_irrefl _ (Nat.lt_of_lt_of_le hk_ (Kd.N_base HO6.out k_ he_.symm))⟩); (case aL => simp only [List.length_nil]; omega); intro v7 w7 ho hb hg hat; clear hg hat HS HO6; have HS := Aside0.mk hb; rw [List.nil_append] at ho; obtain ⟨g, cap, e7, hg1, hg2, _⟩ := Kd.N_form ho (by omega); subst e7; have E2 := Aside0.mk (N_rows ho); have G8 := Aside0.mk (Kd.N_reads' ho).2.1; have G7 := Aside0.mk (And.intro hg1 hg2); clear ho hb hg1 hg2; have HU := Aside0.mk (Below.refl w7.heap.size w7)) | ((with_reducible refine gate_dst (N := 52) rfl ?_); refine Kd.R_lit (Kd.int .u8) (w0 := w7) w7.heap.size 5 ?hg (N := 52) ?hd (xs := ([] : List Int)) (inner := []) (ok := fun _ => True) (okp := fun _ => True) ?hr ?hp (fun _ hk => hk) trivial HU.out (Nat.le_refl _) (by simp) ?_; (case hd => rfl); (case hg => rfl); (case hr => first | (go_simp; done) | (go_simp; rfl)); (case hp => exact (Reps.none _ _)); intro v8 w8 ho hb hg_ hnew_; clear hg_ hnew_ HU; have HU := Aside0.mk hb; have HO8 := Aside0.mk ho; clear ho hb; obtain ⟨ad, Ak, ck, eA, hx, hck, hCk⟩ := at_L1 (Kd.C_below HRW.out (HS.out.trans (HU.out.mono (below_size HS.out)))) (kk : Int) (by omega) (by omega); cases eA; rw [Int.toNat_natCast] at hx; have HCk := Aside0.mk hCk; clear hCk hck) | ((with_reducible refine gate_builtin (b := .append) (xs := #[.tmp 52, .tmp 56]) rfl ?_); at_builtin; refine Kd.R_append_rows (Kd.int .u8) (w0 := w7) w7.heap.size rfl (.tmp 52) (.tmp 56) 31 5 (.int .u8 0) 1 rfl Tryd.underlying31 info5 rfl (by decide) (by omega) v8 ([] : List Int) (rd_L1 l0 (kk : Nat)) _ _ _ (fun _ => True) (fun _ => False) rfl rfl HO8.out HCk.out (fun _ _ h => h) (fun _ h => h.elim) (fun _ _ => trivial) HU.out (below_size HU.out) (by simp only [List.length_nil]; omega) ?_; intro v9 w9 ho hb hg hat; clear hg hat HU HO8 hx HCk; have HU := Aside0.mk hb; rw [List.nil_append] at ho; have HO9 := Aside0.mk ho; clear ho hb; obtain ⟨A9, c9, e9⟩ := Kd.R_slice HO9.out; subst e9; obtain ⟨Ag, cg, hgc0, hgf0, _, _⟩ := E2.out kk hkl; have hgc : w9.cell? ⟨g, kk, none⟩ = some (.slice Ag (rd_L1 l0 (kk : Nat)).length cg) := (HU.out.cell (World.block_lt_of_cell? _ _ hgc0)).trans hgc0; have hgf : w9.frozen? ⟨g, kk, none⟩ = false := (frozen_below HU.out G7.out.2 kk).trans hgf0; clear hgc0 hgf0))
    obtain ⟨b9, d9, e9, hb1, hb2, cs9, hcs9⟩ := Kd.R_form HO9.out hpos
    cases e9
    have hbg : b9 ≠ g := by have := G7.out.2; omega
    obtain ⟨W1, hW1⟩ : ∃ W, W = w9.setCell ⟨g, kk, none⟩ (.slice (some ⟨b9, 0, none⟩) (rd_L1 l0 (kk : Nat)).length c9) := ⟨_, rfl⟩
    rw [← hW1]
    have HR1 := Aside0.mk (show Kd.R (Kd.int .u8) 5 W1 w7.heap.size (fun _ => True) (.slice (some ⟨b9, 0, none⟩) (rd_L1 l0 (kk : Nat)).length c9) (rd_L1 l0 (kk : Nat)) from by
      rw [hW1]
      exact Kd.R_mono (Kd.R_far (p := ⟨g, kk, none⟩) (Kd.R_bound HO9.out) (fun k hk => by have h1 := hk.2.1; have h2 := G7.out.2; show k ≠ g; omega) _) (fun _ _ => trivial))
    have hcg : W1.cell? ⟨g, kk, none⟩ = some (.slice (some ⟨b9, 0, none⟩) (rd_L1 l0 (kk : Nat)).length c9) := by rw [hW1]; exact World.cell?_setCell_same _ _ _ hgc
    have hbf : W1.frozen? ⟨b9, 0, none⟩ = false := by rw [hW1]; exact blk_frozen ((heap_setCell_other w9 ⟨g, kk, none⟩ b9 _ hbg).trans hcs9) 0
    obtain ⟨adx, eax, hb0⟩ := Kd.at_int (Kd.R_reads' HR1.out).2.2 0 (by omega) (by omega)
    cases eax
    rw [show ((0 : Int)).toNat = 0 from rfl, Addr.add_zero'] at hb0
    have q3 : ((0 : Int) < ((rd_L1 l0 (kk : Nat)).length : Int)) = True := eq_true (by omega)
    have q4 : (0 < (rd_L1 l0 (kk : Nat)).length) = True := eq_true hpos
    replace hW1 := Aside0.mk hW1
    replace hcs9 := Aside0.mk hcs9
    go_region
    obtain ⟨X, hX⟩ : ∃ X, X = Go.bits .xor .u8 (rd (rd_L1 l0 (kk : Nat)) 0) a2 := ⟨_, rfl⟩
    rw [← hX] at hrs2 hrb2 ⊢
    obtain ⟨W, hW⟩ : ∃ W, W = (W1.setCell ⟨b9, 0, none⟩ (.int .u8 X)).drew := ⟨_, rfl⟩
    have HW1 : ∀ j, j ≠ kk → W.cell? ⟨g, j, none⟩ = w7.cell? ⟨g, j, none⟩ := fun j hj => by
      rw [hW, World.cell?_drew, World.cell?_setCell_far W1 ⟨b9, 0, none⟩ ⟨g, j, none⟩ _ hbg, hW1.out, World.cell?_setCell_other _ _ _ _ (by intro h; injection h with _ h; exact hj h.symm)]
      exact World.cell?_of_block (HU.out.block _ G7.out.2)
    have HW2 : ∀ k, k ≠ g → k < w7.heap.size → W.heap[k]? = w7.heap[k]? := fun k h1 h2 => by
      rw [hW]
      exact (heap_setCell_other W1 ⟨b9, 0, none⟩ k _ (by show k ≠ b9; omega)).trans (by rw [hW1.out]; exact (heap_setCell_other w9 ⟨g, kk, none⟩ k _ h1).trans (HU.out.block k h2))
    have HW3 : ∃ A c, W.cell? ⟨g, kk, none⟩ = some (.slice A ((rd_L1 l0 (kk : Nat)).set 0 X).length c) ∧ ((rd_L1 l0 (kk : Nat)).set 0 X).length ≤ c ∧ Kd.C (Kd.int .u8) W A ((rd_L1 l0 (kk : Nat)).set 0 X).length ((rd_L1 l0 (kk : Nat)).set 0 X) := by
      rw [List.length_set]
      refine ⟨some ⟨b9, 0, none⟩, c9, ?_, (Kd.R_reads' HR1.out).2.1, ?_⟩
      · rw [hW, World.cell?_drew, World.cell?_setCell_far W1 ⟨b9, 0, none⟩ ⟨g, kk, none⟩ _ hbg]
        exact hcg
      · obtain ⟨r1, r2, r3⟩ := Kd.reads_of_C (enc := Value.int .u8) (d := (0 : Int)) (h1 := fun _ => rfl) (Kd.R_reads' HR1.out).2.2
        refine Kd.C_of_reads (enc := Value.int .u8) (d := (0 : Int)) (h1 := fun _ => rfl) ⟨by rw [List.length_set], r2, fun hp => ?_⟩
        obtain ⟨ad', ea', hc'⟩ := r3 hp
        cases ea'
        refine ⟨_, rfl, fun j hj => ?_⟩
        have h0' := hc' j hj
        rw [add_at, Nat.zero_add] at h0' ⊢
        rw [hW, World.cell?_drew, List.getD_eq_getElem?_getD, List.getElem?_set]
        by_cases hj0 : 0 = j
        · subst hj0
          rw [if_pos rfl, if_pos hj]
          exact World.cell?_setCell_same _ _ _ h0'
        · rw [if_neg hj0, World.cell?_setCell_other _ _ _ _ (by intro h; injection h with _ h; exact hj0 h), h0', List.getD_eq_getElem?_getD]
    have n0_ := Aside0.mk (show Below w3.heap.size w3 W by
      rw [hW, hW1.out]
      exact below_drew1 (((HS.out.trans (HU.out.mono (below_size HS.out))).setCell (p := ⟨g, kk, none⟩) G7.out.1 _).setCell (p := ⟨b9, 0, none⟩) (by have h1 := G7.out.1; have h2 := G7.out.2; show w3.heap.size ≤ b9; omega) _))
    clear HS
    have HS := n0_
    rw [← hW]
    clear n0_ hW HU HO9 hgc hgf HR1 hcg hbf hb0 hcs9 hW1
    go_wp2_with fail
    have HM := Aside0.mk (And.intro (show l0.length ≤ cap by exact G8.out) (rows_set (W := W) (row := ((rd_L1 l0 (kk : Nat)).set 0 X)) (by omega) E2.out HW1 HW2 HW3))
    clear HW1 HW2 HW3 E2

    have hMl : (l0.set kk ((rd_L1 l0 (kk : Nat)).set 0 X)).length = l0.length := List.length_set
    have hMs : Small (l0.set kk ((rd_L1 l0 (kk : Nat)).set 0 X)) := fun x hx => by
      rcases List.mem_or_eq_of_mem_set hx with h | h
      · exact hs x h
      · rw [h]; exact hrs2
    have hMy : AllBytes (l0.set kk ((rd_L1 l0 (kk : Nat)).set 0 X)) := fun x hx => by
      rcases List.mem_or_eq_of_mem_set hx with h | h
      · exact HY.out x h
      · rw [h]; exact hrb2.out
    obtain ⟨M, hM⟩ : ∃ M, M = l0.set kk ((rd_L1 l0 (kk : Nat)).set 0 X) := ⟨_, rfl⟩
    rw [← hM] at hMl hMs hMy HM
    clear hM
    have hRB3 := Aside0.mk (show merkle_Rebuild.f (l0.length : Int) 0 M [] = some (rootW M, 0) by rw [rebuild_f _ _ _ _ (by omega) hMs (by simp) (fun x hx => by cases hx), ← hMl, whole_root M (by omega) (by omega)])
    obtain ⟨kr, Hr⟩ := (refroot_ev M.length M rfl (by omega) hMs hMy).rounds
    replace Hr := Aside0.mk Hr
    have hs3 := same13_ev (rootW l0) (rootW l0) (Nat.le_trans hrs (by decide))
    rw [decide_eq_true rfl] at hs3
    obtain ⟨ks, Hs⟩ := hs3.rounds
    replace Hs := Aside0.mk Hs
    have hs4 := same13_ev (rootW M) (rootW M) (Nat.le_trans (rootW_small hMs (by omega)) (by decide))
    rw [decide_eq_true rfl] at hs4
    obtain ⟨kt, Ht⟩ := hs4.rounds
    replace Ht := Aside0.mk Ht
    have hMcap : M.length ≤ cap := by have := HM.out.1; omega
    clear hs3 hs4
    have hcall := merkle_Rebuild.calls (l0.length : Int) 0 (some ⟨g, 0, none⟩) cap M none 0 [] (rootW M) 0 W HM.out.2 hMcap (Kd.C_nil _ _) (Nat.le_refl _) hRB3.out (HT3.out.below HS.out (Nat.le_refl _))
    rw [hMl] at hcall
    refine hcall.mono ?_
    clear hcall
    rintro e w11 ⟨v11, rfl, O11, l11⟩
    have n0_ := Aside0.mk (below_step HS.out l11)
    clear HS
    have HS := n0_
    clear n0_
    have HM11 := Aside0.mk (Kd.C_below HM.out.2 l11)
    replace O11 := Aside0.mk O11
    clear l11 HM
    go_wp2_with fail
    refine (merkle_Root.calls _ c0 l0 (rootW l0) w11 (Kd.C_below HRW.out HS.out) HC0.out hRT.out (HT3.out.below HS.out (Nat.le_refl _))).mono ?_
    rintro e w12 ⟨v12, rfl, O12, l12⟩
    have n0_ := Aside0.mk (below_step HS.out l12)
    clear HS
    have HS := n0_
    clear n0_
    have HM12 := Aside0.mk (Kd.C_below HM11.out l12)
    have O11b := Aside0.mk (Kd.R_below O11.out l12)
    obtain ⟨A12, c12, rfl⟩ := Kd.R_slice O12
    have HV12 := Aside0.mk (Kd.R_reads' O12).2
    clear l12 O11 O12 HM11
    go_wp2_with fail
    refine (casketlaw20_same.calls ks A3 c3 (rootW l0) A12 c12 (rootW l0) true w12 (Kd.C_below HV3.out HS.out) HV3c.out HV12.out.2 HV12.out.1 Hs.out).mono ?_
    rintro e w13 ⟨rfl, ⟨nd2, rfl⟩⟩
    have n0_ := Aside0.mk (pw_below_drewN HS.out nd2)
    have HM13 := Aside0.mk (Kd.C_drewN HM12.out nd2)
    have O13 := Aside0.mk (Kd.R_drewN O11b.out nd2)
    clear HS HM12 O11b HV12
    have HS := n0_
    clear n0_
    generalize w12.drewN nd2 = w13 at HS HM13 O13 ⊢
    go_wp2_with fail
    have hcall := casketref20_Root.calls kr (some ⟨g, 0, none⟩) cap M (rootW M) w13 HM13.out hMcap Hr.out
    rw [hMl] at hcall
    refine hcall.mono ?_
    clear hcall
    rintro e w14 ⟨v14, rfl, O14, l14⟩
    have n0_ := Aside0.mk (below_step HS.out l14)
    clear HS
    have HS := n0_
    clear n0_
    have O15 := Aside0.mk (Kd.R_below O13.out l14)
    obtain ⟨A14, c14, rfl⟩ := Kd.R_slice O14
    obtain ⟨A11, c11, rfl⟩ := Kd.R_slice O15.out
    have HV14 := Aside0.mk (Kd.R_reads' O14).2
    have HV11 := Aside0.mk (Kd.R_reads' O15.out).2
    clear l14 O13 O14 O15 HM13
    go_wp2_with fail
    refine (casketlaw20_same.calls kt A11 c11 (rootW M) A14 c14 (rootW M) true w14 HV11.out.2 HV11.out.1 HV14.out.2 HV14.out.1 Ht.out).mono ?_
    rintro e w15 ⟨rfl, ⟨nd3, rfl⟩⟩
    go_wp2
    go_ret
    exact ⟨rfl, pw_below_drewN (L3.out.trans (HS.out.mono (below_size L3.out))) nd3⟩
end Go.Proofs.YtgdogjnjbinoiaaDoor.Q
