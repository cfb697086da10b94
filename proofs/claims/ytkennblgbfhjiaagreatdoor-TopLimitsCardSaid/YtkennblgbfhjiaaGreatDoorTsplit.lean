/- An archive of nothing, split. -/
import Derived.Test.YtkennblgbfhjiaaGreatDoorTarc
namespace Go.Proofs.YtkennblgbfhjiaaGreatDoor.Q
open Go.RowKit Go.Proofs.YtkennblgbfhjiaaGreatDoorW.PrintWords Go.Proofs.YtkennblgbfhjiaaGreatDoorW.PrintLast Go.Proofs.YtkennblgbfhjiaaGreatDoorW.PrintMore Go.Proofs.YtkennblgbfhjiaaGreatDoor.F Go.Proofs.YtkennblgbfhjiaaGreatDoor.H
set_option linter.unusedVariables false
set_option linter.unusedSimpArgs false
/-- A struct of four cells stored whole. -/
theorem bk_put4 {w : World} {g t : Nat} {a b c d a' b' c' d' : Value} (h : Bk w g t [a, b, c, d]) : Bk ((((w.setCell ⟨g, 0, none⟩ a').setCell ⟨g, 1, none⟩ b').setCell ⟨g, 2, none⟩ c').setCell ⟨g, 3, none⟩ d') g t [a', b', c', d'] := (((h.set 0 a').set 1 b').set 2 c').set 3 d'
theorem grown_put4 (w : World) (g : Nat) (a' b' c' d' : Value) : w.grownBy ((((w.setCell ⟨g, 0, none⟩ a').setCell ⟨g, 1, none⟩ b').setCell ⟨g, 2, none⟩ c').setCell ⟨g, 3, none⟩ d') (some g) :=
  grown_trans (grown_trans (grown_trans (grown_set w g 0 a') (grown_set _ g 1 b')) (grown_set _ g 2 c')) (grown_set _ g 3 d')
set_option maxHeartbeats 2000000 in
set_option maxRecDepth 100000 in
theorem split_any (B : Option Addr) (n d : Nat) (m p r : List Int) (w : World) (hB : SL w (.slice B n d) (110 :: signB m p r)) (lp : p.length = 32) (lr : r.length = 32) :
    Calls Tryz.prog 39 #[.slice B n d] w fun e w' => ∃ vp vr vs, e = .returned (.tuple #[.agg #[.int .u64 1, vp, .slice none 0 0, vr], vs, .slice none 0 0, .int .i64 0]) ∧ SL w' vp p ∧ SL w' vr r ∧ SL w' vs (signB m p r) ∧ Below w.heap.size w w' := by
  have hmf : ∀ (fn : Fn) (first cap : Array Value) (w : World), (Instr.makeFunc fn first cap).run Tryz.prog w = .ok (.func fn first cap) w := fun _ _ _ _ => rfl
  have L1 := (Below.refl w.heap.size w).alloc (Nat.le_refl _) (.cells #[.int .u64 0, .slice none 0 0, .slice none 0 0, .slice none 0 0] 74)
  have B1 := Aside0.mk (Bk.at0 w 74 [.int .u64 0, .slice none 0 0, .slice none 0 0, .slice none 0 0] _ rfl)
  have HB := Aside0.mk (hB.below L1)
  have LP := Aside0.mk lp
  have LR := Aside0.mk lr
  have HL := Aside0.mk (signB_length m p r lp lr)
  replace L1 := Aside0.mk L1
  clear hB lp lr
  go_enter Tryz.func39, Tryz.ntmps39
  go_wp2_with fail
  refine (cnew_any B d n _ _ HB.out (by rw [List.length_cons, HL.out]; decide)).mono ?_
  rintro e w1 ⟨g, rfl, hg, C1, l1⟩
  simp only [World.size_alloc] at hg
  have B2 := Aside0.mk (B1.out.below l1)
  have L2 := Aside0.mk (below_then L1.out L1.out.size l1)
  replace C1 := Aside0.mk C1
  clear l1 B1 L1 HB
  go_wp2_with fail
  refine (cblock_any g 110 (signB m p r) 268435456 _ C1.out rfl HL.out rfl).mono ?_
  rintro e w2 ⟨vs, rfl, s2, c2, g2⟩
  have B3 := Aside0.mk (B2.out.grown g2 (fun e => by have := Option.some.inj e; omega))
  have L3 := Aside0.mk (L2.out.grown g2 L2.out.size (fun k e => by have := Option.some.inj e; omega))
  have C3 := Aside0.mk c2
  have S3 := Aside0.mk s2
  obtain ⟨As, cs, rfl⟩ := s2.is
  have hcs := s2.cap
  rw [HL.out] at hcs ⊢
  have q0 : ¬ ((cs : Int) < 78) := by omega
  have q1 : (78 : Int) ≤ cs := by omega
  clear s2 c2 g2 B2 L2 C1
  go_wp2_with fail
  have hs : (signB m p r).take 78 = manB (fixN 1 8 8) p r := by
    rw [signB, ← manB_length (fixN 1 8 8) p r (fixN_length 1 8 8) LP.out LR.out, List.take_left]
  have hM := manB_length (fixN 1 8 8) p r (fixN_length 1 8 8) LP.out LR.out
  have S4 : SL w2 (.slice As 78 78) (manB (fixN 1 8 8) p r) := by
    have := (S3.out.take 78 (by rw [HL.out]; decide)).C
    rw [hs] at this
    exact ⟨As, 78, by rw [hM], by rw [hM]; exact Nat.le_refl _, by rw [hM]; exact this⟩
  refine (mdecode_any As 78 78 (fixN 1 8 8) p r _ S4 (fixN_length 1 8 8) LP.out LR.out beV_one).mono ?_
  rintro e w3 ⟨vp, vr, rfl, sp, sr, l1⟩
  have B4 := B3.out.below l1
  have hlt := B4.lt
  have L4 := Aside0.mk (below_then L3.out L3.out.size l1)
  have C4 := Aside0.mk (C3.out.below l1)
  have S5 := Aside0.mk (S3.out.below l1)
  have hgl := (C3.out.below l1).lt
  have SP := Aside0.mk sp
  have SR := Aside0.mk sr
  obtain ⟨Ap, cp, rfl⟩ := sp.is
  obtain ⟨Ar, cr, rfl⟩ := sr.is
  replace B4 := Aside0.mk B4
  clear sp sr l1 hs hM S4 S3 B3 L3 C3 q0 q1 hcs
  go_wp2
  have l2 : Below w3.heap.size w3 (w3.alloc (.cells #[.int .u64 1, .slice Ap p.length cp, .slice none 0 0, .slice Ar r.length cr] 74)) := below_alloc (Below.refl _ _) _
  have M5 := Aside0.mk (Bk.at0 w3 74 [.int .u64 1, .slice Ap p.length cp, .slice none 0 0, .slice Ar r.length cr] _ rfl)
  have B5 := Aside0.mk (B4.out.below l2)
  have L5 := Aside0.mk (below_then L4.out L4.out.size l2)
  have C5 := Aside0.mk (C4.out.below l2)
  have S6 := Aside0.mk (S5.out.below l2)
  have SP5 := Aside0.mk (SP.out.below l2)
  have SR5 := Aside0.mk (SR.out.below l2)
  generalize w3.alloc (.cells #[.int .u64 1, .slice Ap p.length cp, .slice none 0 0, .slice Ar r.length cr] 74) = w4 at M5 B5 L5 C5 S6 SP5 SR5 ⊢
  clear l2 B4 L4 C4 S5 SP SR hmf
  refine wp_loop_rounds 1 ?_
  rw [rounds_succ]
  go_wp2_with fail
  refine (cend_any g _ C5.out).mono ?_
  rintro e w5 ⟨rfl, hw⟩
  subst hw
  have hc0 : w5.cell? ⟨w3.heap.size, 0, none⟩ = some (.int .u64 1) := M5.out.cell 0
  have hc1 : w5.cell? ⟨w3.heap.size, 1, none⟩ = some (.slice Ap p.length cp) := M5.out.cell 1
  have hc2 : w5.cell? ⟨w3.heap.size, 2, none⟩ = some (.slice none 0 0) := M5.out.cell 2
  have hc3 : w5.cell? ⟨w3.heap.size, 3, none⟩ = some (.slice Ar r.length cr) := M5.out.cell 3
  have hd0 : w5.cell? ⟨w.heap.size, 0, none⟩ = some (.int .u64 0) := B5.out.cell 0
  have hd1 : w5.cell? ⟨w.heap.size, 1, none⟩ = some (.slice none 0 0) := B5.out.cell 1
  have hd2 : w5.cell? ⟨w.heap.size, 2, none⟩ = some (.slice none 0 0) := B5.out.cell 2
  have hd3 : w5.cell? ⟨w.heap.size, 3, none⟩ = some (.slice none 0 0) := B5.out.cell 3
  have hf0 := B5.out.frozen 0
  have hf1 := B5.out.frozen 1
  have hf2 := B5.out.frozen 2
  have hf3 := B5.out.frozen 3
  go_wp2
  clear hc0 hc1 hc2 hc3 hd0 hd1 hd2 hd3 hf0 hf1 hf2 hf3
  have hw := grown_put4 w5 w.heap.size (.int .u64 1) (.slice Ap p.length cp) (.slice none 0 0) (.slice Ar r.length cr)
  have hn : NoByte [Value.int .u64 0, .slice none 0 0, .slice none 0 0, .slice none 0 0] := fun u hu x e => by subst e; simp at hu
  have B9 := bk_put4 B5.out (a' := .int .u64 1) (b' := .slice Ap p.length cp) (c' := .slice none 0 0) (d' := .slice Ar r.length cr)
  have L9 := L5.out.grown hw L5.out.size (fun k e => by have := Option.some.inj e; omega)
  have S9 := S6.out.keepB B5.out hn hw
  have P9 := SP5.out.keepB B5.out hn hw
  have R9 := SR5.out.keepB B5.out hn hw
  generalize (((w5.setCell ⟨w.heap.size, 0, none⟩ (.int .u64 1)).setCell ⟨w.heap.size, 1, none⟩ (.slice Ap p.length cp)).setCell ⟨w.heap.size, 2, none⟩ (.slice none 0 0)).setCell ⟨w.heap.size, 3, none⟩ (.slice Ar r.length cr) = w9 at B9 L9 S9 P9 R9 ⊢
  have hc0 : w9.cell? ⟨w.heap.size, 0, none⟩ = some (.int .u64 1) := B9.cell 0
  have hc1 : w9.cell? ⟨w.heap.size, 1, none⟩ = some (.slice Ap p.length cp) := B9.cell 1
  have hc2 : w9.cell? ⟨w.heap.size, 2, none⟩ = some (.slice none 0 0) := B9.cell 2
  have hc3 : w9.cell? ⟨w.heap.size, 3, none⟩ = some (.slice Ar r.length cr) := B9.cell 3
  rw [HL.out] at S9
  exact bodyPost_ret (v := .tuple #[.agg #[.int .u64 1, .slice Ap p.length cp, .slice none 0 0, .slice Ar r.length cr], .slice As 110 cs, .slice none 0 0, .int .i64 0]) (by simp [results, Tryz.results39, go_sem, hc0, hc1, hc2, hc3]) rfl ⟨_, _, _, rfl, P9, R9, S9, L9⟩
end Go.Proofs.YtkennblgbfhjiaaGreatDoor.Q
