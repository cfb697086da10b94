/- Plain facts on the slow reference of what bytes are sealed to and opened to. No program in sight; each fact under the conditions that it states. -/
import Derived.Test.YtllaobhheokafaaFaea2
import Derived.Test.YtllaobhheokafaaFrefc
import Derived.Test.YtllaobhheokafaaDref17
namespace Go.Proofs.Ytllaobhheokafaa.F
open Go.RowKit Go.Proofs.Ytllaobhheokafaa.Q Go.Proofs.YtllaobhheokafaaW.PrintWords Go.Proofs.YtllaobhheokafaaW.PrintLast Go.Proofs.YtllaobhheokafaaW.PrintMore
set_option linter.unusedVariables false
set_option linter.unusedSimpArgs false
theorem full_ev (out b : List Int) (ho : out.length ≤ 1000000) (hb : b.length ≤ 1000000) : Ev (fun k => casketref17_full.f k out b) (out ++ padB b) := by
  unfold casketref17_full.f
  have c1 : out.length + b.length < 140737488355328 := by omega
  simp only [if_pos c1]
  have key : ∀ (d m : Nat) (l : List Int), (16 - m % 16) % 16 = d → m ≤ 2000000 → l.length ≤ 3000000 - d → Ev (fun k => casketref17_full.l0 k l (m : Nat)) (l ++ List.replicate d 0) := by
    intro d
    induction d with
    | zero =>
      intro m l hd hm hl
      rw [List.replicate_zero, List.append_nil]
      refine Ev.step (f := fun _ => some l) (fun k => ?_) (Ev.now _)
      simp only [casketref17_full.l0]
      rw [Int.tmod_eq_emod_of_nonneg (by omega), if_pos (by omega)]
    | succ d ih =>
      intro m l hd hm hl
      have e3 := Aside0.mk (show wrap64 ((m : Int) + 1) = ((m + 1 : Nat) : Int) by rw [w64 (by omega) (by omega)]; rfl)
      have h := ih (m + 1) (l ++ [0]) (by omega) (by omega) (by rw [List.length_append]; simp only [List.length_cons, List.length_nil]; omega)
      rw [List.append_assoc] at h
      refine Ev.step (f := fun k => casketref17_full.l0 k (l ++ [0]) ((m + 1 : Nat) : Int)) (fun k => ?_) h
      simp only [casketref17_full.l0]
      rw [Int.tmod_eq_emod_of_nonneg (by omega), if_neg (by omega), if_pos (by omega), e3.out]
  have h := key ((16 - b.length % 16) % 16) b.length (out ++ b) rfl (by omega) (by rw [List.length_append]; omega)
  rw [List.append_assoc] at h
  have e : padB b = b ++ List.replicate ((16 - b.length % 16) % 16) 0 := by
    rw [padB]
    congr 2
    omega
  rw [e]
  exact h
theorem length_ev (out : List Int) (n : Int) (ho : out.length ≤ 1000000) : Ev (fun k => casketref17_length.f k out n) (out ++ lowN n 8) := by
  unfold casketref17_length.f
  have key : ∀ (d i : Nat), 8 - i = d → i ≤ 8 → Ev (fun k => casketref17_length.l0 k (out ++ lowN n i) n (i : Nat)) (out ++ lowN n 8) := by
    intro d
    induction d with
    | zero =>
      intro i hd hi
      obtain rfl : i = 8 := by omega
      refine Ev.step (f := fun _ => some _) (fun k => ?_) (Ev.now _)
      simp only [casketref17_length.l0]
      rw [if_neg (by omega)]
    | succ d ih =>
      intro i hd hi
      have hl := lowN_length n i
      refine Ev.step (f := fun k => casketref17_length.l0 k (out ++ lowN n (i + 1)) n ((i + 1 : Nat) : Int)) (fun k => ?_) (ih (i + 1) (by omega) (by omega))
      simp only [casketref17_length.l0]
      rw [w64 (n := 8 * (i : Int)) (by omega) (by omega), wu64 (n := 8 * (i : Int)) (by omega) (by omega), w64 (n := (i : Int) + 1) (by omega) (by omega), if_pos (by omega), if_pos (by omega), if_pos (by rw [List.length_append]; omega), List.append_assoc]
      rfl
  have := key 8 0 rfl (by omega)
  rw [show out ++ lowN n 0 = out from List.append_nil _] at this
  exact this
theorem reftag_ev (key nonce ad c : List Int) (hk : key.length = 32) (hn : nonce.length = 12) (ha : ad.length ≤ 1000) (hc : c.length ≤ 1000) (Ha : Bytes ad) (Hc : Bytes c) : Ev (fun k => casketref17_Tag.f k key nonce ad c) (tagW key nonce ad c) := by
  unfold casketref17_Tag.f
  refine Ev.bind (refblock_ev key 0 nonce hk hn) ?_
  have h1 := padB_length ad
  have h2 := padB_length c
  have f1 := full_ev [] ad (by simp) (by omega)
  rw [List.nil_append] at f1
  have f2 := full_ev (padB ad) c (by omega) (by omega)
  have l1 : (padB ad ++ padB c).length ≤ 1000000 := by rw [List.length_append]; omega
  have f3 := length_ev (padB ad ++ padB c) (ad.length : Int) l1
  have l2 : (padB ad ++ padB c ++ lowN (ad.length : Int) 8).length ≤ 1000000 := by rw [List.length_append, List.length_append, lowN_length]; omega
  have f4 := length_ev (padB ad ++ padB c ++ lowN (ad.length : Int) 8) (c.length : Int) l2
  refine Ev.bind f1 ?_
  refine Ev.bind f2 ?_
  refine Ev.bind f3 ?_
  refine Ev.bind f4 ?_
  have hl : (blockW key 0 nonce).length = 64 := blockW_length key 0 nonce
  have c1 : (32 : Int) ≤ ((blockW key 0 nonce).length : Int) := by omega
  simp only [if_pos c1]
  have e : padB ad ++ padB c ++ lowN (ad.length : Int) 8 ++ lowN (c.length : Int) 8 = aeadT ad c := by
    have h4 : (lowN (ad.length : Int) 8 ++ lowN (c.length : Int) 8).length = 16 := by rw [List.length_append, lowN_length, lowN_length]
    have h5 : padB (lowN (ad.length : Int) 8 ++ lowN (c.length : Int) 8) = lowN (ad.length : Int) 8 ++ lowN (c.length : Int) 8 := by
      rw [padB, h4]
      exact List.append_nil _
    rw [aeadT, h5, List.append_assoc]
  rw [e]
  have hT : (aeadT ad c).length ≤ 100000 := by
    rw [← e, List.length_append, List.length_append, List.length_append, lowN_length, lowN_length]
    omega
  have f5 := refmac_ev ((blockW key 0 nonce).take 32) (aeadT ad c) (fun x hx => blockW_bytes _ _ _ x (List.mem_of_mem_take hx)) (by rw [List.length_take]; omega) (aeadT_bytes Ha Hc) hT
  refine Ev.bind f5 ?_
  unfold tagW
  generalize macP ((blockW key 0 nonce).take 32) (aeadT ad c) = z
  exact Ev.now _
theorem refseal_ev (key nonce ad p : List Int) (hk : key.length = 32) (hn : nonce.length = 12) (ha : ad.length ≤ 1000) (hp : p.length ≤ 1000) (Ha : Bytes ad) : Ev (fun k => casketref17_Seal.f k key nonce ad p) (sealW key nonce ad p, 0) := by
  unfold casketref17_Seal.f
  have hs := refstream_ev key 1 nonce p hk hn (by omega) (by decide)
  rw [if_pos (by omega)] at hs
  refine Ev.bind hs ?_
  have hl := streamW_length key 1 nonce p
  have ht := tagW_length key nonce ad (streamW key 1 nonce p)
  simp only [if_true]
  refine Ev.bind (reftag_ev key nonce ad _ hk hn ha (by omega) Ha (streamW_bytes _ _ _ _)) ?_
  have c1 : (streamW key 1 nonce p).length + (tagW key nonce ad (streamW key 1 nonce p)).length < 140737488355328 := by omega
  simp only [if_pos c1]
  exact Ev.now _
theorem refseal_none (key nonce ad p : List Int) (h : ¬(key.length = 32 ∧ nonce.length = 12)) : Ev (fun k => casketref17_Seal.f k key nonce ad p) ([], 1) := by
  unfold casketref17_Seal.f
  refine Ev.bind (refstream_none key 1 nonce p h) ?_
  exact Ev.now _
theorem refopen_ev (key nonce ad s : List Int) (hk : key.length = 32) (hn : nonce.length = 12) (ha : ad.length ≤ 1000) (hs : s.length ≤ 1000) (Ha : Bytes ad) (Hs : Bytes s) : Ev (fun k => casketref17_Open.f k key nonce ad s) (openW key nonce ad s) := by
  unfold casketref17_Open.f openW
  have c1 : (key.length : Int) = 32 := by omega
  have c2 : ((nonce.length : Int) != 12) = false := by rw [bne_eq_false_iff_eq]; omega
  simp only [if_pos c1, c2]
  have e := Aside0.mk (w64 (n := (s.length : Int) - 16) (by omega) (by omega))
  by_cases h : s.length < 16
  · simp only [if_pos h]
    refine Ev.step (f := fun _ => some ([], 2)) (fun k => ?_) (Ev.now _)
    simp only [casketref17_Open.j0]
    rw [if_neg (by decide), e.out, if_pos (by omega)]
  · have hn' : ((s.length : Int) - 16).toNat = s.length - 16 := by omega
    simp only [if_neg h]
    refine Ev.step (f := fun k => (casketref17_Tag.f k key nonce ad (s.take (s.length - 16))).bind fun t750 => ((casketref01_Same.f k t750 (s.drop (s.length - 16))).bind fun t754 => (if t754 = true then ((casketref15_Stream.f k key 1 nonce (s.take (s.length - 16))).bind fun bt756 => (some (bt756.1, bt756.2))) else (some (([] : List Int), 5))))) (fun k => ?_) ?_
    · simp only [casketref17_Open.j0]
      rw [if_neg (by decide), e.out, if_neg (by omega), if_pos (by omega), if_pos (by omega), hn']
    refine Ev.bind (reftag_ev key nonce ad _ hk hn ha (by rw [List.length_take]; omega) Ha (Hs.take _)) ?_
    refine Ev.bind (same_ev _ _ (by rw [tagW_length]; decide)) ?_
    by_cases he : tagW key nonce ad (s.take (s.length - 16)) = s.drop (s.length - 16)
    · rw [decide_eq_true he, if_pos he]
      simp only [if_true]
      have hs2 := refstream_ev key 1 nonce (s.take (s.length - 16)) hk hn (by rw [List.length_take]; omega) (by decide)
      rw [if_pos (by rw [List.length_take]; omega)] at hs2
      exact Ev.bind hs2 (Ev.now _)
    · rw [decide_eq_false he, if_neg he]
      exact Ev.now _
theorem refopen_none (key nonce ad s : List Int) (h : ¬(key.length = 32 ∧ nonce.length = 12)) : Ev (fun k => casketref17_Open.f k key nonce ad s) ([], 1) := by
  unfold casketref17_Open.f
  have j : Ev (fun k => casketref17_Open.j0 k key nonce ad s true) ([], 1) := Ev.step (f := fun _ => some ([], 1)) (fun k => by simp only [casketref17_Open.j0]; rfl) (Ev.now _)
  by_cases h1 : (key.length : Int) = 32
  · have : ((nonce.length : Int) != 12) = true := bne_iff_ne.mpr (fun e => h ⟨by omega, by omega⟩)
    simp only [if_pos h1, this]
    exact j
  · simp only [if_neg h1]
    exact j
end Go.Proofs.Ytllaobhheokafaa.F
