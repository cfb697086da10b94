/- Two ways to one root: the document's search for two texts with the same sum finds them, or the ways are the same. No program in sight. -/
import Derived.Test.YtgdogjnjbinoiaaDoorHmz2
namespace Go.Proofs.YtgdogjnjbinoiaaDoor.Q
open Go.RowKit Go.Proofs.YtgdogjnjbinoiaaDoorW.PrintWords Go.Proofs.YtgdogjnjbinoiaaDoorW.PrintLast Go.Proofs.YtgdogjnjbinoiaaDoorW.PrintMore Go.Proofs.YtgdogjnjbinoiaaDoor.F
set_option linter.unusedVariables false
set_option linter.unusedSimpArgs false
/-- How many proofs the way down to the leaves takes. -/
def cntW : Nat → Nat → Nat → Int → Int → Nat
  | 0, _, _, _, _ => 0
  | f + 1, lo, hi, i, j =>
    if decide (j < lo) || decide ((hi : Int) - 1 < i) then 1
    else if hi - lo = 1 then 0
    else cntW f lo (lo + halfW (hi - lo)) i j + cntW f (lo + halfW (hi - lo)) hi i j
/-- What the way down to the leaves makes of a part. -/
def mdW : Nat → List (List Int) → Nat → Nat → Nat → List (List Int) → List Int
  | 0, _, _, _, _, _ => []
  | f + 1, l, I, lo, hi, p =>
    if decide ((I : Int) + l.length - 1 < lo) || decide ((hi : Int) - 1 < I) then rd_L1 p 0
    else if hi - lo = 1 then rd_L1 l ((lo - I : Nat) : Int)
    else nodeW (mdW f l I lo (lo + halfW (hi - lo)) p) (mdW f l I (lo + halfW (hi - lo)) hi (p.drop (cntW f lo (lo + halfW (hi - lo)) I ((I : Int) + l.length - 1))))
theorem cnt_within (i j : Int) : ∀ (f lo hi : Nat), hi - lo ≤ f → lo < hi → i ≤ (lo : Int) → (hi : Int) - 1 ≤ j → cntW f lo hi i j = 0
  | 0, lo, hi, h1, h2, _, _ => by omega
  | f + 1, lo, hi, h1, h2, h3, h4 => by
    rw [cntW, if_neg (fun h => by rw [dec_or] at h; omega)]
    split
    · rfl
    · have k1 := halfW_lt (hi - lo) (by omega)
      have k2 := halfW_pos (hi - lo)
      rw [cnt_within i j f lo _ (by omega) (by omega) h3 (by omega), cnt_within i j f _ hi (by omega) (by omega) (by omega) h4]
theorem md_within (l : List (List Int)) (hl : l.length ≤ 1000) (I : Nat) : ∀ (f lo hi : Nat) (p : List (List Int)), hi - lo ≤ f → lo < hi → I ≤ lo → hi ≤ I + l.length → mdW f l I lo hi p = rootW ((l.take (hi - I)).drop (lo - I))
  | 0, lo, hi, p, h1, h2, _, _ => by omega
  | f + 1, lo, hi, p, h1, h2, h3, h4 => by
    rw [mdW, if_neg (fun h => by rw [dec_or] at h; omega)]
    by_cases c : hi - lo = 1
    · rw [if_pos c, show hi - I = (lo - I) + 1 by omega, slice_single l (lo - I) (by omega)]
    · rw [if_neg c]
      have k1 := halfW_lt (hi - lo) (by omega)
      have k2 := halfW_pos (hi - lo)
      have hr := slice_root l hl (lo - I) (hi - I) (by omega) (by omega)
      rw [show hi - I - (lo - I) = hi - lo by omega] at hr
      rw [hr, md_within l hl I f lo _ p (by omega) (by omega) h3 (by omega), md_within l hl I f _ hi _ (by omega) (by omega) (by omega) h4, show lo + halfW (hi - lo) - I = lo - I + halfW (hi - lo) by omega]
theorem cnt_many (i j : Int) (hij : i ≤ j) : ∀ (f lo hi : Nat), hi - lo ≤ f → lo < hi → cntW f lo hi i j = manyW f lo hi i j
  | 0, lo, hi, h1, h2 => by omega
  | f + 1, lo, hi, h1, h2 => by
    rcases part_cases lo hi i j h2 hij with ⟨c1, c2⟩ | ⟨c1, c2⟩ | ⟨c1, c2, c3⟩
    · rw [cnt_within i j (f + 1) lo hi h1 h2 c1.1 c1.2, manyW, if_pos (dec_and.mpr c1)]
    · rw [cntW, if_pos (dec_or.mpr c2), manyW, if_neg (fun h => c1 (dec_and.mp h)), if_pos (dec_or.mpr c2)]
    · have k1 := halfW_lt (hi - lo) c3
      have k2 := halfW_pos (hi - lo)
      have d1 : ¬ (decide (i ≤ (lo : Int)) && decide ((hi : Int) - 1 ≤ j)) = true := fun h => c1 (dec_and.mp h)
      have d2 : ¬ (decide (j < (lo : Int)) || decide ((hi : Int) - 1 < i)) = true := fun h => c2 (dec_or.mp h)
      rw [cntW, manyW]
      simp only [if_neg d1, if_neg d2, if_neg (show ¬ hi - lo = 1 by omega)]
      rw [cnt_many i j hij f lo _ (by omega) (by omega), cnt_many i j hij f _ hi (by omega) (by omega)]
theorem md_top (l : List (List Int)) (hl : l.length ≤ 1000) (h0 : 1 ≤ l.length) (I : Nat) : ∀ (f lo hi : Nat) (p : List (List Int)), hi - lo ≤ f → lo < hi → manyW f lo hi I ((I : Int) + l.length - 1) ≤ p.length → mdW f l I lo hi p = (topW f l I ((I : Int) + l.length - 1) lo hi p false).1
  | 0, lo, hi, p, h1, h2, _ => by omega
  | f + 1, lo, hi, p, h1, h2, hm => by
    rcases part_cases lo hi I ((I : Int) + l.length - 1) h2 (by omega) with ⟨c1, c2⟩ | ⟨c1, c2⟩ | ⟨c1, c2, c3⟩
    · rw [md_within l hl I (f + 1) lo hi p h1 h2 (by omega) (by omega), topW, if_neg (fun h => c2 (dec_or.mp h)), if_pos (dec_and.mpr c1), show ((hi : Int) - (I : Int)).toNat = hi - I by omega, show ((lo : Int) - (I : Int)).toNat = lo - I by omega]
    · have hmm : manyW (f + 1) lo hi I ((I : Int) + l.length - 1) = 1 := by rw [manyW, if_neg (fun h => c1 (dec_and.mp h)), if_pos (dec_or.mpr c2)]
      rw [hmm] at hm
      rw [mdW, if_pos (dec_or.mpr c2), topW, if_pos (dec_or.mpr c2), if_neg (by omega)]
    · obtain ⟨hn1, hn2⟩ := topW_node l I ((I : Int) + l.length - 1) (by omega) f lo hi p h1 h2 c1 c2 hm
      have k1 := halfW_lt (hi - lo) c3
      have k2 := halfW_pos (hi - lo)
      rw [hn2] at hm
      rw [hn1, mdW, if_neg (fun h => c2 (dec_or.mp h)), if_neg (by omega), cnt_many _ _ (by omega) f lo _ (by omega) (by omega)]
      rw [md_top l hl h0 I f lo _ p (by omega) (by omega) (by omega), md_top l hl h0 I f _ hi _ (by omega) (by omega) (by rw [List.length_drop]; omega)]
/-- Lists of sums. -/
def All32 (l : List (List Int)) : Prop := ∀ x ∈ l, x.length = 32
theorem All32.small {l : List (List Int)} (h : All32 l) : Small l := fun x hx => by rw [h x hx]; decide
theorem rd_32 {l : List (List Int)} (h : All32 l) (i : Nat) (hi : i < l.length) : (rd_L1 l (i : Nat)).length = 32 := by
  rw [rd_L1_nat l i hi]
  exact h _ (List.getElem_mem hi)
theorem cons_node (a b : List Int) : shaW ([1] ++ a ++ b) = nodeW a b := by rw [nodeW]; rfl
/-- What two ways have in common. -/
abbrev Agree (x y p q : List (List Int)) (I lo hi a n : Nat) : Prop := (∀ t : Nat, I ≤ t → lo ≤ t → t < hi → t < I + x.length → x[t - I]? = y[t - I]?) ∧ (∀ t : Nat, a ≤ t → t < a + n → p[t]? = q[t]?)
/-- What the search tells. -/
abbrev Told (x y p q : List (List Int)) (I lo hi a n : Nat) (c1 c2 : List Int) (found : Bool) (va vb : List Int) : Prop :=
  (found = true → c1 ≠ c2 ∧ shaW c1 = shaW c2 ∧ Bytes c1 ∧ Bytes c2 ∧ c1.length ≤ 1000 ∧ c2.length ≤ 1000) ∧ (found = false → va = vb → Agree x y p q I lo hi a n)
/-- One part's search behind those of its two parts. -/
def joinC (C : List Int × List Int × Bool) (a1 a2 b1 b2 : List Int) : List Int × List Int × Bool :=
  if C.2.2 = false ∧ nodeW a1 a2 = nodeW b1 b2 ∧ ¬ [1] ++ a1 ++ a2 = [1] ++ b1 ++ b2 then ([1] ++ a1 ++ a2, [1] ++ b1 ++ b2, true) else C
/-- The search: what it finds in a part. -/
def clashW : Nat → List (List Int) → List (List Int) → List (List Int) → List (List Int) → Nat → Nat → Nat → Nat → List Int × List Int × Bool
  | 0, _, _, _, _, _, _, _, _ => ([], [], false)
  | f + 1, x, y, p, q, I, lo, hi, a =>
    if decide ((I : Int) + x.length - 1 < lo) || decide ((hi : Int) - 1 < I) then ([], [], false)
    else if hi - lo = 1 then ([], [], false)
    else joinC (if (clashW f x y p q I lo (lo + halfW (hi - lo)) a).2.2 then clashW f x y p q I lo (lo + halfW (hi - lo)) a else clashW f x y p q I (lo + halfW (hi - lo)) hi (a + cntW f lo (lo + halfW (hi - lo)) I ((I : Int) + x.length - 1)))
      (mdW f x I lo (lo + halfW (hi - lo)) (p.drop a)) (mdW f x I (lo + halfW (hi - lo)) hi (p.drop (a + cntW f lo (lo + halfW (hi - lo)) I ((I : Int) + x.length - 1))))
      (mdW f y I lo (lo + halfW (hi - lo)) (q.drop a)) (mdW f y I (lo + halfW (hi - lo)) hi (q.drop (a + cntW f lo (lo + halfW (hi - lo)) I ((I : Int) + x.length - 1))))
/-- What the two lists and the two proofs are. -/
structure Pairs (x y p q : List (List Int)) (I : Nat) : Prop where
  xy : x.length = y.length
  h0 : 1 ≤ x.length
  hx : x.length ≤ 1000
  hI : I ≤ 1048576
  x3 : All32 x
  y3 : All32 y
  p3 : All32 p
  q3 : All32 q
  bx : AllBytes x
  bY : AllBytes y
  bp : AllBytes p
  bq : AllBytes q
  pl : p.length ≤ 1000000
  ql : q.length ≤ 1000000
/-- The steps of what is made and counted. -/
theorem node_step {x y p q : List (List Int)} {I : Nat} (H : Pairs x y p q I) (f lo hi a : Nat) (c2 : ¬ ((I : Int) + (x.length : Int) - 1 < (lo : Int) ∨ (hi : Int) - 1 < (I : Int))) (c3 : ¬ hi - lo = 1) {m n1 : Nat} (hm : m = lo + halfW (hi - lo)) (hn : n1 = cntW f lo m I ((I : Int) + x.length - 1)) :
    cntW (f + 1) lo hi I ((I : Int) + x.length - 1) = n1 + cntW f m hi I ((I : Int) + x.length - 1) ∧
    mdW (f + 1) x I lo hi (p.drop a) = nodeW (mdW f x I lo m (p.drop a)) (mdW f x I m hi (p.drop (a + n1))) ∧
    mdW (f + 1) y I lo hi (q.drop a) = nodeW (mdW f y I lo m (q.drop a)) (mdW f y I m hi (q.drop (a + n1))) ∧
    clashW (f + 1) x y p q I lo hi a = joinC (if (clashW f x y p q I lo m a).2.2 then clashW f x y p q I lo m a else clashW f x y p q I m hi (a + n1)) (mdW f x I lo m (p.drop a)) (mdW f x I m hi (p.drop (a + n1))) (mdW f y I lo m (q.drop a)) (mdW f y I m hi (q.drop (a + n1))) := by
  have d2 : ¬ (decide ((I : Int) + (x.length : Int) - 1 < (lo : Int)) || decide ((hi : Int) - 1 < (I : Int))) = true := fun h => c2 (dec_or.mp h)
  subst hm
  subst hn
  refine ⟨?_, ?_, ?_, ?_⟩
  · rw [cntW, if_neg d2, if_neg c3]
  · rw [mdW, if_neg d2, if_neg c3, List.drop_drop]
  · rw [mdW, ← H.xy, if_neg d2, if_neg c3, List.drop_drop]
  · rw [clashW, if_neg d2, if_neg c3]
theorem apart_step {x y p q : List (List Int)} {I : Nat} (H : Pairs x y p q I) (f lo hi a : Nat) (c2 : (I : Int) + (x.length : Int) - 1 < (lo : Int) ∨ (hi : Int) - 1 < (I : Int)) :
    cntW (f + 1) lo hi I ((I : Int) + x.length - 1) = 1 ∧ mdW (f + 1) x I lo hi (p.drop a) = rd_L1 p (a : Nat) ∧ mdW (f + 1) y I lo hi (q.drop a) = rd_L1 q (a : Nat) ∧ clashW (f + 1) x y p q I lo hi a = ([], [], false) := by
  refine ⟨?_, ?_, ?_, ?_⟩
  · rw [cntW, if_pos (dec_or.mpr c2)]
  · rw [mdW, if_pos (dec_or.mpr c2)]
    simp [rd_L1]
  · rw [mdW, ← H.xy, if_pos (dec_or.mpr c2)]
    simp [rd_L1]
  · rw [clashW, if_pos (dec_or.mpr c2)]
theorem leaf_step {x y p q : List (List Int)} {I : Nat} (H : Pairs x y p q I) (f lo hi a : Nat) (c2 : ¬ ((I : Int) + (x.length : Int) - 1 < (lo : Int) ∨ (hi : Int) - 1 < (I : Int))) (c3 : hi - lo = 1) :
    cntW (f + 1) lo hi I ((I : Int) + x.length - 1) = 0 ∧ mdW (f + 1) x I lo hi (p.drop a) = rd_L1 x ((lo - I : Nat) : Int) ∧ mdW (f + 1) y I lo hi (q.drop a) = rd_L1 y ((lo - I : Nat) : Int) ∧ clashW (f + 1) x y p q I lo hi a = ([], [], false) := by
  have d2 : ¬ (decide ((I : Int) + (x.length : Int) - 1 < (lo : Int)) || decide ((hi : Int) - 1 < (I : Int))) = true := fun h => c2 (dec_or.mp h)
  refine ⟨?_, ?_, ?_, ?_⟩
  · rw [cntW, if_neg d2, if_pos c3]
  · rw [mdW, if_neg d2, if_pos c3]
  · rw [mdW, ← H.xy, if_neg d2, if_pos c3]
  · rw [clashW, if_neg d2, if_pos c3]
theorem clash_told {x y p q : List (List Int)} {I : Nat} (H : Pairs x y p q I) :
    ∀ (f lo hi a : Nat), hi - lo ≤ f → lo < hi → hi ≤ 1048576 → a + cntW f lo hi I ((I : Int) + x.length - 1) ≤ p.length → a + cntW f lo hi I ((I : Int) + x.length - 1) ≤ q.length →
      (mdW f x I lo hi (p.drop a)).length = 32 ∧ (mdW f y I lo hi (q.drop a)).length = 32 ∧ Bytes (mdW f x I lo hi (p.drop a)) ∧ Bytes (mdW f y I lo hi (q.drop a)) ∧
      Told x y p q I lo hi a (cntW f lo hi I ((I : Int) + x.length - 1)) (clashW f x y p q I lo hi a).1 (clashW f x y p q I lo hi a).2.1 (clashW f x y p q I lo hi a).2.2 (mdW f x I lo hi (p.drop a)) (mdW f y I lo hi (q.drop a))
  | 0, lo, hi, a, h1, h2, _, _, _ => by omega
  | f + 1, lo, hi, a, h1, h2, h3, h4, h5 => by
    have hxy := H.xy
    by_cases c2 : (I : Int) + (x.length : Int) - 1 < (lo : Int) ∨ (hi : Int) - 1 < (I : Int)
    · obtain ⟨hc, hma, hmb, hcl⟩ := apart_step H f lo hi a c2
      rw [hc] at h4 h5 ⊢
      rw [hma, hmb, hcl]
      refine ⟨rd_32 H.p3 a (by omega), rd_32 H.q3 a (by omega), bytes_rdL H.bp _, bytes_rdL H.bq _, ⟨fun h => (by cases h), fun _ he => ⟨fun t t1 t2 t3 t4 => by omega, fun t t1 t2 => ?_⟩⟩⟩
      obtain rfl : t = a := by omega
      rw [rd_L1_nat p t (by omega), rd_L1_nat q t (by omega)] at he
      rw [List.getElem?_eq_getElem (by omega), List.getElem?_eq_getElem (by omega), he]
    · by_cases c3 : hi - lo = 1
      · obtain ⟨hc, hma, hmb, hcl⟩ := leaf_step H f lo hi a c2 c3
        rw [hc, hma, hmb, hcl]
        refine ⟨rd_32 H.x3 _ (by omega), rd_32 H.y3 _ (by omega), bytes_rdL H.bx _, bytes_rdL H.bY _, ⟨fun h => (by cases h), fun _ he => ⟨fun t t1 t2 t3 t4 => ?_, fun t t1 t2 => by omega⟩⟩⟩
        obtain rfl : t = lo := by omega
        rw [rd_L1_nat x (t - I) (by omega), rd_L1_nat y (t - I) (by omega)] at he
        rw [List.getElem?_eq_getElem (by omega), List.getElem?_eq_getElem (by omega), he]
      · have k1 := halfW_lt (hi - lo) (by omega)
        have k2 := halfW_pos (hi - lo)
        obtain ⟨m, hm⟩ : ∃ m, m = lo + halfW (hi - lo) := ⟨_, rfl⟩
        obtain ⟨n1, hn1⟩ : ∃ n1, n1 = cntW f lo m I ((I : Int) + x.length - 1) := ⟨_, rfl⟩
        obtain ⟨hc, hma, hmb, hcl⟩ := node_step H f lo hi a c2 c3 hm hn1
        have m1 : lo < m := by omega
        have m2 : m < hi := by omega
        rw [hc] at h4 h5 ⊢
        obtain ⟨la1, lb1, ba1, bb1, t1⟩ := clash_told H f lo m a (by omega) m1 (by omega) (by omega) (by omega)
        obtain ⟨la2, lb2, ba2, bb2, t2⟩ := clash_told H f m hi (a + n1) (by omega) m2 h3 (by omega) (by omega)
        rw [hma, hmb, hcl]
        rw [← hn1] at t1
        generalize mdW f x I lo m (p.drop a) = va1 at la1 ba1 t1 ⊢
        generalize mdW f y I lo m (q.drop a) = vb1 at lb1 bb1 t1 ⊢
        generalize mdW f x I m hi (p.drop (a + n1)) = va2 at la2 ba2 t2 ⊢
        generalize mdW f y I m hi (q.drop (a + n1)) = vb2 at lb2 bb2 t2 ⊢
        generalize cntW f m hi I ((I : Int) + x.length - 1) = n2 at t2 h4 h5 ⊢
        obtain ⟨⟨c1, d1, f1⟩, e1⟩ : ∃ z, z = clashW f x y p q I lo m a := ⟨_, rfl⟩
        obtain ⟨⟨cc2, d2, f2⟩, e2⟩ : ∃ z, z = clashW f x y p q I m hi (a + n1) := ⟨_, rfl⟩
        rw [← e1] at t1 ⊢
        rw [← e2] at t2 ⊢
        dsimp only at t1 t2 ⊢
        have hone : ([1] ++ va1 ++ va2).length = 65 := by simp; omega
        have htwo : ([1] ++ vb1 ++ vb2).length = 65 := by simp; omega
        refine ⟨nodeW_length _ _, nodeW_length _ _, nodeW_bytes _ _, nodeW_bytes _ _, ?_⟩
        cases f1 with
        | true =>
          rw [joinC, if_neg (fun h => by cases h.1), if_pos rfl]
          exact ⟨fun _ => t1.1 rfl, fun h => by cases h⟩
        | false =>
          cases f2 with
          | true =>
            rw [joinC, if_neg (fun h => by cases h.1), if_neg (by decide)]
            exact ⟨fun _ => t2.1 rfl, fun h => by cases h⟩
          | false =>
            by_cases c4 : nodeW va1 va2 = nodeW vb1 vb2
            · by_cases c5 : [1] ++ va1 ++ va2 = [1] ++ vb1 ++ vb2
              · rw [joinC, if_neg (fun h => h.2.2 c5), if_neg (by decide)]
                refine ⟨fun h => (by cases h), fun _ _ => ?_⟩
                have h6 := List.append_inj' c5 (by omega)
                have h7 := List.append_inj h6.1 rfl
                obtain ⟨A1, A2⟩ := t1.2 rfl h7.2
                obtain ⟨B1, B2⟩ := t2.2 rfl h6.2
                refine ⟨fun t u1 u2 u3 u4 => ?_, fun t u1 u2 => ?_⟩
                · by_cases c6 : t < m
                  · exact A1 t u1 u2 c6 u4
                  · exact B1 t u1 (by omega) u3 u4
                · by_cases c6 : t < a + n1
                  · exact A2 t u1 c6
                  · exact B2 t (by omega) (by omega)
              · rw [joinC, if_pos ⟨rfl, c4, c5⟩]
                refine ⟨fun _ => ⟨c5, ?_, ?_, ?_, Nat.le_trans (Nat.le_of_eq hone) (by decide), Nat.le_trans (Nat.le_of_eq htwo) (by decide)⟩, fun h => by cases h⟩
                · rw [cons_node, cons_node]; exact c4
                · exact Bytes.append (Bytes.append (fun z hz => by rw [List.mem_singleton] at hz; omega) ba1) ba2
                · exact Bytes.append (Bytes.append (fun z hz => by rw [List.mem_singleton] at hz; omega) bb1) bb2
            · rw [joinC, if_neg (fun h => c4 h.2.1), if_neg (by decide)]
              exact ⟨fun h => (by cases h), fun _ hh => absurd hh c4⟩
end Go.Proofs.YtgdogjnjbinoiaaDoor.Q
