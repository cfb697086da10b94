/- One root, one list, or a clash: the law holds of what the program's and the document's functions come to. No program in sight. -/
import Derived.Test.YtgdogjnjbinoiaaDoorHcl
import Derived.Test.YtgdogjnjbinoiaaDoorDMerkleBinds
namespace Go.Proofs.YtgdogjnjbinoiaaDoor.Q
open Go.RowKit Go.Proofs.YtgdogjnjbinoiaaDoorW.PrintWords Go.Proofs.YtgdogjnjbinoiaaDoorW.PrintLast Go.Proofs.YtgdogjnjbinoiaaDoorW.PrintMore Go.Proofs.YtgdogjnjbinoiaaDoor.F
set_option linter.unusedVariables false
set_option linter.unusedSimpArgs false
theorem fewB_len {l : List (List Int)} {n : Nat} (h : fewB l n = true) : l.length ≤ n := (fewB_small h).1
/-- What is left to be done where all sums are as long as sums are. -/
theorem binds_tail (n i : Int) (x y p q : List (List Int)) (hx : x.length ≤ 40) (hxy : x.length = y.length) (hp : p.length ≤ 60) (hq : q.length ≤ 60) (hx3 : All32 x) (hy3 : All32 y) (hp3 : All32 p) (hq3 : All32 q) (bx : AllBytes x) (bY : AllBytes y) (bp : AllBytes p) (bq : AllBytes q) :
    Ev (fun k => (merkle_Rebuild.f n i x p).bind fun bt377 => ((merkle_Rebuild.f n i y q).bind fun bt381 => (if bt377.2 = 0 then (if bt381.2 = 0 then ((casketlaw20_same.f k bt377.1 bt381.1).bind fun t385 => (if t385 = true then ((casketref20_Same.f k x y).bind fun t386 => (if t386 = true then ((casketref20_Same.f k p q).bind fun t387 => (casketlaw20_MerkleBinds.j2 k n i x y p q true t387)) else (casketlaw20_MerkleBinds.j2 k n i x y p q true false))) else (casketlaw20_MerkleBinds.j2 k n i x y p q true true))) else (casketlaw20_MerkleBinds.j2 k n i x y p q true true)) else (casketlaw20_MerkleBinds.j2 k n i x y p q true true)))) true := by
  have hup : Ev (fun k => casketlaw20_MerkleBinds.j2 k n i x y p q true true) true := by
    refine Ev.step (f := fun _ => some true) (fun k => ?_) (Ev.now _)
    simp only [casketlaw20_MerkleBinds.j2, if_true]
  rw [rebuild_f n i x p (by omega) hx3.small (by omega) hp3.small, rebuild_f n i y q (by omega) hy3.small (by omega) hq3.small]
  simp only [Option.bind_some]
  by_cases z1 : (rebuildW n i x p).2 = 0
  · by_cases z2 : (rebuildW n i y q).2 = 0
    · simp only [if_pos z1, if_pos z2]
      have hsm := rebuildW_small n i x p (by omega) hx3.small hp3.small
      refine Ev.bind (same13_ev (rebuildW n i x p).1 (rebuildW n i y q).1 (Nat.le_trans hsm (by decide))) ?_
      by_cases z3 : (rebuildW n i x p).1 = (rebuildW n i y q).1
      · simp only [decide_eq_true z3, if_true]
        by_cases hbad : n < 1 ∨ n > 1048576 ∨ x.length = 0 ∨ i < 0 ∨ i ≥ n ∨ (x.length : Int) > n - i
        · rw [rebuildW_bad n i x p hbad] at z1
          exact absurd z1 (by decide)
        obtain ⟨N, rfl⟩ : ∃ N : Nat, n = N := ⟨n.toNat, by omega⟩
        obtain ⟨I, rfl⟩ : ∃ I : Nat, i = I := ⟨i.toNat, by omega⟩
        have hpm : p.length = manyW N 0 N I ((I : Int) + x.length - 1) := by
          by_cases h : p.length = manyW N 0 N I ((I : Int) + x.length - 1)
          · exact h
          · rw [rebuildW_ok N I x p (by omega) (by omega) (by omega) (by omega), if_neg h] at z1
            exact absurd z1 (by decide)
        have hqm : q.length = manyW N 0 N I ((I : Int) + x.length - 1) := by
          by_cases h : q.length = manyW N 0 N I ((I : Int) + y.length - 1)
          · rw [hxy]; exact h
          · rw [rebuildW_ok N I y q (by omega) (by omega) (by omega) (by omega), if_neg h] at z2
            exact absurd z2 (by decide)
        have hcnt := cnt_many I ((I : Int) + x.length - 1) (by omega) N 0 N (by omega) (by omega)
        have hfin : ¬ (x = y ∧ p = q) → Ev (fun k => casketlaw20_MerkleBinds.j2 k (N : Int) (I : Int) x y p q true false) true := by
          intro hne
          have hw4 := Aside0.mk (show wrap64 ((I : Int) + (x.length : Int)) = (I : Int) + (x.length : Int) from w64 (by omega) (by omega))
          have hw5 := Aside0.mk (show wrap64 ((I : Int) + (x.length : Int) - 1) = (I : Int) + (x.length : Int) - 1 from w64 (by omega) (by omega))
          have hw6 := Aside0.mk (show wrap64 ((N : Int) - (I : Int)) = (N : Int) - (I : Int) from w64 (by omega) (by omega))
          have hm := many_ev I ((I : Int) + x.length - 1) (by omega) (by omega) N 0 N (by omega) (by omega) (by omega) (by omega)
          refine Ev.step (f := fun k => (casketref20_Many.f k ((0 : Nat) : Int) N I ((I : Int) + x.length - 1)).bind fun t388 => (if (p.length : Int) = t388 then (casketlaw20_MerkleBinds.j3 k N I x y p q true ((q.length : Int) != (p.length : Int))) else (casketlaw20_MerkleBinds.j3 k N I x y p q true true))) (fun k => ?_) ?_
          · simp only [casketlaw20_MerkleBinds.j2]
            rw [if_neg (by decide), if_neg (by omega), if_neg (by omega), if_neg (by omega), if_neg (by omega), if_neg (by omega), hw6.out, if_neg (by omega), hw4.out, hw5.out]
            rfl
          · refine Ev.bind hm ?_
            simp only [if_pos (show (p.length : Int) = ((manyW N 0 N (I : Int) ((I : Int) + x.length - 1) : Nat) : Int) by omega), show ((q.length : Int) != (p.length : Int)) = false by rw [bne_eq_false_iff_eq]; omega]
            have hP : Pairs x y p q I := ⟨hxy, by omega, by omega, by omega, hx3, hy3, hp3, hq3, bx, bY, bp, bq, by omega, by omega⟩
            obtain ⟨la, lb, ba, bb, told1, told2⟩ := clash_told hP N 0 N 0 (by omega) (by omega) (by omega) (by omega) (by omega)
            obtain ⟨⟨c1, c2, fd⟩, hcw⟩ : ∃ z, z = clashW N x y p q I 0 N 0 := ⟨_, rfl⟩
            rw [← hcw] at told1 told2
            dsimp only at told1 told2
            have e1 : Ev (fun k => casketlaw20_clash.f k ((0 : Nat) : Int) N I x y p q ((0 : Nat) : Int)) (c1, c2, fd, mdW N x I 0 N p, mdW N y I 0 N q, ((cntW N 0 N I ((I : Int) + x.length - 1) : Nat) : Int)) := ⟨0, fun k _ => by
              unfold casketlaw20_clash.f
              rw [Int.toNat_natCast, Int.toNat_natCast, if_pos ⟨rfl, rfl, by omega, by omega, by omega, hP, by omega, by omega⟩, ← hcw]⟩
            refine Ev.step (f := fun k => (casketlaw20_clash.f k ((0 : Nat) : Int) N I x y p q ((0 : Nat) : Int)).bind fun bt389 => (if bt389.2.2.1 = true then ((casketlaw20_same.f k bt389.1 bt389.2.1).bind fun t404 => (if t404 = true then (some false) else ((casketref20_Sum.f k bt389.1).bind fun t405 => ((casketref20_Sum.f k bt389.2.1).bind fun t408 => ((casketlaw20_same.f k t405 t408).bind fun t411 => (some t411)))))) else (some false))) (fun k => ?_) ?_
            · simp only [casketlaw20_MerkleBinds.j3]
              rw [if_neg (by decide)]
              rfl
            · refine Ev.bind e1 ?_
              dsimp only
              cases fd with
              | true =>
                obtain ⟨n1, n2, n3, n4, n5, n6⟩ := told1 rfl
                simp only [if_true]
                have hs := same13_ev c1 c2 (by omega)
                rw [decide_eq_false n1] at hs
                refine Ev.bind hs ?_
                simp only [Bool.false_eq_true, if_false]
                unfold casketref20_Sum.f
                refine Ev.bind (Ev.bind (refsum_ev c1 (by omega) n3) (Ev.now _)) ?_
                refine Ev.bind (Ev.bind (refsum_ev c2 (by omega) n4) (Ev.now _)) ?_
                have hs2 := same13_ev (shaW c1) (shaW c2) (by rw [shaW_length]; decide)
                rw [decide_eq_true n2] at hs2
                exact Ev.bind hs2 (Ev.now _)
              | false =>
                exfalso
                have hA : (rebuildW N I x p).1 = mdW N x I 0 N (p.drop 0) := by
                  rw [rebuildW_ok N I x p (by omega) (by omega) (by omega) (by omega), if_pos hpm, List.drop_zero, md_top x (by omega) (by omega) I N 0 N p (by omega) (by omega) (by omega)]
                have hB : (rebuildW N I y q).1 = mdW N y I 0 N (q.drop 0) := by
                  rw [rebuildW_ok N I y q (by omega) (by omega) (by omega) (by omega), ← hxy, if_pos hqm, List.drop_zero, md_top y (by omega) (by omega) I N 0 N q (by omega) (by omega) (by rw [← hxy]; omega), hxy]
                obtain ⟨g1, g2⟩ := told2 rfl (by rw [← hA, ← hB]; exact z3)
                refine hne ⟨List.ext_getElem? fun t => ?_, List.ext_getElem? fun t => ?_⟩
                · by_cases ht : t < x.length
                  · have := g1 (I + t) (by omega) (by omega) (by omega) (by omega)
                    rw [show I + t - I = t by omega] at this
                    exact this
                  · rw [List.getElem?_eq_none (by omega), List.getElem?_eq_none (by omega)]
                · by_cases ht : t < p.length
                  · exact g2 t (by omega) (by omega)
                  · rw [List.getElem?_eq_none (by omega), List.getElem?_eq_none (by omega)]
        refine Ev.bind (sames_ev x y (by omega) hx3.small) ?_
        by_cases z4 : x = y
        · simp only [decide_eq_true z4, if_true]
          refine Ev.bind (sames_ev p q (by omega) hp3.small) ?_
          by_cases z5 : p = q
          · rw [decide_eq_true z5]
            exact hup
          · rw [decide_eq_false z5]
            exact hfin (fun h => z5 h.2)
        · simp only [decide_eq_false z4, Bool.false_eq_true, if_false]
          exact hfin (fun h => z4 h.1)
      · simp only [decide_eq_false z3, Bool.false_eq_true, if_false]
        exact hup
    · simp only [if_pos z1, if_neg z2]
      exact hup
  · simp only [if_neg z1]
    exact hup
theorem MerkleBinds_ev (n i : Int) (x y p q : List (List Int)) (bx : AllBytes x) (bY : AllBytes y) (bp : AllBytes p) (bq : AllBytes q) : Ev (fun k => casketlaw20_MerkleBinds.f k n i x y p q) true := by
  have hup : Ev (fun k => casketlaw20_MerkleBinds.j0 k n i x y p q true true) true := by
    refine Ev.step (f := fun _ => some true) (fun k => ?_) (Ev.now _)
    simp only [casketlaw20_MerkleBinds.j0, if_true]
  unfold casketlaw20_MerkleBinds.f
  refine Ev.bind awake_ev (Ev.bind (few_ev x 40 (by decide)) ?_)
  by_cases f1 : fewB x 40 = true
  case neg => simp only [if_neg f1]; exact hup
  simp only [if_pos f1]
  refine Ev.bind (few_ev y 40 (by decide)) ?_
  by_cases f2 : fewB y 40 = true
  case neg => simp only [if_neg f2]; exact hup
  simp only [if_pos f2]
  refine Ev.bind (few_ev p 60 (by decide)) ?_
  by_cases f3 : fewB p 60 = true
  case neg => simp only [if_neg f3]; exact hup
  simp only [if_pos f3]
  refine Ev.bind (few_ev q 60 (by decide)) ?_
  by_cases f4 : fewB q 60 = true
  case neg => simp only [if_neg f4]; exact hup
  simp only [if_pos f4]
  have l1 := fewB_len f1
  have l2 := fewB_len f2
  have l3 := fewB_len f3
  have l4 := fewB_len f4
  by_cases hxy : x.length = y.length
  case neg =>
    rw [show ((x.length : Int) != (y.length : Int)) = true by rw [bne_iff_ne]; omega]
    exact hup
  rw [show ((x.length : Int) != (y.length : Int)) = false by rw [bne_eq_false_iff_eq]; omega]
  obtain ⟨al, hal⟩ : ∃ al : List (List Int), al = (((([] : List (List Int)) ++ x) ++ y) ++ p) ++ q := ⟨_, rfl⟩
  have hlen : al.length ≤ 200 := by
    rw [hal]
    simp only [List.length_append, List.length_nil]
    omega
  refine Ev.step (f := fun k => casketlaw20_MerkleBinds.l0 k n i x y p q true al 0) (fun k => ?_) ?_
  · simp only [casketlaw20_MerkleBinds.j0]
    rw [if_neg (by decide), if_pos (by omega), hal]
  · have hT : All32 al → Ev (fun k => (merkle_Rebuild.f n i x p).bind fun bt377 => ((merkle_Rebuild.f n i y q).bind fun bt381 => (if bt377.2 = 0 then (if bt381.2 = 0 then ((casketlaw20_same.f k bt377.1 bt381.1).bind fun t385 => (if t385 = true then ((casketref20_Same.f k x y).bind fun t386 => (if t386 = true then ((casketref20_Same.f k p q).bind fun t387 => (casketlaw20_MerkleBinds.j2 k n i x y p q true t387)) else (casketlaw20_MerkleBinds.j2 k n i x y p q true false))) else (casketlaw20_MerkleBinds.j2 k n i x y p q true true))) else (casketlaw20_MerkleBinds.j2 k n i x y p q true true)) else (casketlaw20_MerkleBinds.j2 k n i x y p q true true)))) true := fun h32 =>
      binds_tail n i x y p q l1 hxy l3 l4 (fun z hz => h32 z (by rw [hal]; simp only [List.mem_append]; exact Or.inl (Or.inl (Or.inl (Or.inr hz))))) (fun z hz => h32 z (by rw [hal]; simp only [List.mem_append]; exact Or.inl (Or.inl (Or.inr hz)))) (fun z hz => h32 z (by rw [hal]; simp only [List.mem_append]; exact Or.inl (Or.inr hz))) (fun z hz => h32 z (by rw [hal]; simp only [List.mem_append]; exact Or.inr hz)) bx bY bp bq
    have key : ∀ (d j : Nat), al.length - j = d → j ≤ al.length → (∀ z ∈ al.take j, z.length = 32) → Ev (fun k => casketlaw20_MerkleBinds.l0 k n i x y p q true al (j : Int)) true := by
      intro d
      induction d with
      | zero =>
        intro j hd hj h32
        refine Ev.step (fun k => ?_) (hT (fun z hz => h32 z (by rw [List.take_of_length_le (by omega)]; exact hz)))
        simp only [casketlaw20_MerkleBinds.l0]
        rw [if_neg (by omega)]
      | succ d ih =>
        intro j hd hj h32
        have h1 : j < al.length := by omega
        by_cases h2 : ((rd_L1 al (j : Nat)).length : Int) = 32
        · refine Ev.step (f := fun k => casketlaw20_MerkleBinds.l0 k n i x y p q true al ((j + 1 : Nat) : Int)) (fun k => ?_) (ih (j + 1) (by omega) (by omega) (fun z hz => ?_))
          · simp only [casketlaw20_MerkleBinds.l0]
            rw [if_pos (by omega), if_pos (by omega), if_pos h2, w64 (by omega) (by omega)]
            rfl
          · rw [List.take_succ_eq_append_getElem h1, List.mem_append, List.mem_singleton] at hz
            rcases hz with hz | hz
            · exact h32 z hz
            · rw [rd_L1_nat al j h1] at h2
              rw [hz]
              omega
        · refine Ev.step (f := fun _ => some true) (fun k => ?_) (Ev.now _)
          simp only [casketlaw20_MerkleBinds.l0]
          rw [if_pos (by omega), if_pos (by omega), if_neg h2]
    exact key al.length 0 (by omega) (by omega) (fun z hz => by simp at hz)
end Go.Proofs.YtgdogjnjbinoiaaDoor.Q
