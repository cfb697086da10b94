/- A manifest's signature, checked. -/
import Derived.Test.YtkennblgbfhjiaaGreatDoorTsign
import Derived.StillTailTactics
namespace Go.Proofs.YtkennblgbfhjiaaGreatDoor.Q
open Go.RowKit Go.Proofs.YtkennblgbfhjiaaGreatDoorW.PrintWords Go.Proofs.YtkennblgbfhjiaaGreatDoorW.PrintLast Go.Proofs.YtkennblgbfhjiaaGreatDoorW.PrintMore Go.Proofs.YtkennblgbfhjiaaGreatDoor.F Go.Proofs.YtkennblgbfhjiaaGreatDoor.H
set_option linter.unusedVariables false
set_option linter.unusedSimpArgs false
theorem below_set {w0 w : World} {B g : Nat} (h : Below B w0 w) (hg : B ≤ g) (i : Nat) (v : Value) : Below B w0 (w.setCell ⟨g, i, none⟩ v) := h.setCell hg v
theorem check_yes (A B C : Option Addr) (n c m d o f : Nat) (k b t : List Int) (w : World) (hk : SL w (.slice A n c) k) (hb : SL w (.slice B m d) b) (ht : SL w (.slice C o f) t) (lk : k.length ≤ 1000) (lb : b.length ≤ 1000) (e : t = macW k [b]) :
    Calls Tryz.prog 93 #[.slice A n c, .slice B m d, .slice C o f] w fun e w' => e = .returned (.bool true) ∧ Below w.heap.size w w' := by
  obtain rfl := hk.len
  obtain rfl := hb.len
  obtain rfl := ht.len
  have hv := check_ev k b t (by omega) (by omega) (by rw [e]; exact mac_bytes k b)
  rw [e, decide_eq_true rfl] at hv
  obtain ⟨kk, hk'⟩ := hv.rounds
  subst e
  exact hmac_Check.calls kk A c k B d b C f _ true w hk.C hk.cap hb.C hb.cap ht.C ht.cap hk'
theorem beV_one : beV (fixN 1 8 8) = 1 := by kernel_rfl
set_option maxHeartbeats 1000000 in
set_option maxRecDepth 100000 in
theorem mcheck_any (A B : Option Addr) (c d : Nat) (m p r : List Int) (w : World) (hA : SL w (.slice A 32 c) m) (hB : SL w (.slice B 110 d) (signB m p r)) (lp : p.length = 32) (lr : r.length = 32) :
    Calls Tryz.prog 40 #[.slice A 32 c, .slice B 110 d] w fun e w' => ∃ Ap np cp Ar nr cr, e = .returned (.tuple #[.agg #[.int .u64 1, .slice Ap np cp, .slice none 0 0, .slice Ar nr cr], .int .i64 0]) ∧ Below w.heap.size w w' := by
  have L1 := (Below.refl w.heap.size w).alloc (Nat.le_refl _) (.cells #[.int .u64 0, .slice none 0 0, .slice none 0 0, .slice none 0 0] 74)
  have B1 := Aside0.mk (Bk.at0 w 74 [.int .u64 0, .slice none 0 0, .slice none 0 0, .slice none 0 0] _ rfl)
  have HA := Aside0.mk (hA.below L1)
  have HB := Aside0.mk (hB.below L1)
  have LP := Aside0.mk lp
  have LR := Aside0.mk lr
  have hd := hB.cap
  rw [signB_length m p r lp lr] at hd
  replace L1 := Aside0.mk L1
  clear hA hB lp lr
  go_enter Tryz.func40, Tryz.ntmps40
  go_wp2_with fail
  refine (keyM_any A c m _ HA.out).mono ?_
  rintro e w2 ⟨vk, rfl, hk, l1⟩
  have K2 := Aside0.mk hk
  have H2 := Aside0.mk (HB.out.below l1)
  have L2 := Aside0.mk (below_then L1.out L1.out.size l1)
  have B2 := Aside0.mk (B1.out.below l1)
  obtain ⟨Ak, ck, rfl⟩ := hk.is
  clear hk l1 HA HB L1 B1
  go_wp2_with fail
  have q0 : ¬ ((d : Int) < 78) := by omega
  have q1 : ¬ (d = 78) := by omega
  have q2 : (78 : Int) ≤ d := by omega
  go_still_tail 7, (by kernel_rfl)
  change wpList _ _ _ _ _ w2.drew
  have l1 : Below w2.heap.size w2 w2.drew := below_drew (Below.refl _ _)
  have K3 := Aside0.mk (K2.out.below l1)
  have H3 := H2.out.below l1
  have L3 := Aside0.mk (below_then L2.out L2.out.size l1)
  have B3 := Aside0.mk (B2.out.below l1)
  clear l1 K2 H2 L2 B2
  generalize w2.drew = w3 at K3 H3 L3 B3 ⊢
  have hs : (signB m p r).take 78 = manB (fixN 1 8 8) p r := by
    rw [signB, ← manB_length (fixN 1 8 8) p r (fixN_length 1 8 8) LP.out LR.out, List.take_left]
  have ht : (signB m p r).drop 78 = macW (kM m) [manB (fixN 1 8 8) p r] := by
    rw [signB, ← manB_length (fixN 1 8 8) p r (fixN_length 1 8 8) LP.out LR.out, List.drop_left]
  have hl := signB_length m p r LP.out LR.out
  have T3 := H3
  rw [← hl] at T3
  have U3 := T3.take 78 (by omega)
  have V3 := T3.drop 78 (by omega)
  rw [hs] at U3
  rw [ht, if_neg q1, hl] at V3
  replace U3 := Aside0.mk U3
  replace V3 := Aside0.mk (show SL w3 (.slice (Option.map (fun x => { block := x.block, off := x.off + 78 }) B) 32 (d - 78)) _ by first | exact V3 | simpa [Addr.add] using V3)
  replace hl := Aside0.mk hl
  clear hs ht T3 H3
  go_wp2_with fail
  refine (check_yes Ak B _ _ ck 78 d 32 (d - 78) _ _ _ _ K3.out U3.out V3.out (by rw [kM_length]; decide) (by rw [manB_length _ _ _ (fixN_length 1 8 8) LP.out LR.out]; decide) rfl).mono ?_
  rintro e w4 ⟨rfl, l1⟩
  have U4 := Aside0.mk (U3.out.below l1)
  have L4 := Aside0.mk (below_then L3.out L3.out.size l1)
  have B4 := Aside0.mk (B3.out.below l1)
  clear l1 K3 U3 V3 L3 B3
  go_wp2_with fail
  refine (mdecode_any B 78 d (fixN 1 8 8) p r _ U4.out (fixN_length 1 8 8) LP.out LR.out beV_one).mono ?_
  rintro e w5 ⟨vp, vr, rfl, sp, sr, l1⟩
  have L5 := Aside0.mk (below_then L4.out L4.out.size l1)
  have B5 := Aside0.mk (B4.out.below l1)
  have SP := Aside0.mk sp
  have SR := Aside0.mk sr
  obtain ⟨Ap, cp, rfl⟩ := sp.is
  obtain ⟨Ar, cr, rfl⟩ := sr.is
  have hc0 : w5.cell? ⟨w.heap.size, 0, none⟩ = some (.int .u64 0) := B5.out.cell 0
  have hc1 : w5.cell? ⟨w.heap.size, 1, none⟩ = some (.slice none 0 0) := B5.out.cell 1
  have hc2 : w5.cell? ⟨w.heap.size, 2, none⟩ = some (.slice none 0 0) := B5.out.cell 2
  have hc3 : w5.cell? ⟨w.heap.size, 3, none⟩ = some (.slice none 0 0) := B5.out.cell 3
  have hf0 := B5.out.frozen 0
  have hf1 := B5.out.frozen 1
  have hf2 := B5.out.frozen 2
  have hf3 := B5.out.frozen 3
  clear sp sr l1 U4 L4 B4
  go_wp2
  clear hc0 hc1 hc2 hc3 hf0 hf1 hf2 hf3
  have B9 := (((B5.out.set 0 (.int .u64 1)).set 1 (.slice Ap p.length cp)).set 2 (.slice none 0 0)).set 3 (.slice Ar r.length cr)
  have L9 := below_set (below_set (below_set (below_set L5.out (Nat.le_refl _) 0 (.int .u64 1)) (Nat.le_refl _) 1 (.slice Ap p.length cp)) (Nat.le_refl _) 2 (.slice none 0 0)) (Nat.le_refl _) 3 (.slice Ar r.length cr)
  generalize (((w5.setCell ⟨w.heap.size, 0, none⟩ (.int .u64 1)).setCell ⟨w.heap.size, 1, none⟩ (.slice Ap p.length cp)).setCell ⟨w.heap.size, 2, none⟩ (.slice none 0 0)).setCell ⟨w.heap.size, 3, none⟩ (.slice Ar r.length cr) = w9 at B9 L9 ⊢
  have hc0 : w9.cell? ⟨w.heap.size, 0, none⟩ = some (.int .u64 1) := B9.cell 0
  have hc1 : w9.cell? ⟨w.heap.size, 1, none⟩ = some (.slice Ap p.length cp) := B9.cell 1
  have hc2 : w9.cell? ⟨w.heap.size, 2, none⟩ = some (.slice none 0 0) := B9.cell 2
  have hc3 : w9.cell? ⟨w.heap.size, 3, none⟩ = some (.slice Ar r.length cr) := B9.cell 3
  exact bodyPost_ret (v := .tuple #[.agg #[.int .u64 1, .slice Ap p.length cp, .slice none 0 0, .slice Ar r.length cr], .int .i64 0]) (by simp [results, Tryz.results40, go_sem, hc0, hc1, hc2, hc3]) rfl ⟨_, _, _, _, _, _, rfl, L9⟩
end Go.Proofs.YtkennblgbfhjiaaGreatDoor.Q
