/- Plain facts on what the program's chacha and the reference's come to: the same blocks, the same streams. No program in sight; each fact under the conditions that it states. -/
import Derived.Test.YtllaobhheokafaaDchacha
import Derived.Test.YtllaobhheokafaaDref15
import Derived.Laws.BitsLemmas
import Derived.KernelRfl
namespace Go.Proofs.Ytllaobhheokafaa.F
open Go.RowKit Go.Proofs.Ytllaobhheokafaa.Q Go.Proofs.YtllaobhheokafaaW.PrintWords Go.Proofs.YtllaobhheokafaaW.PrintLast Go.Proofs.YtllaobhheokafaaW.PrintMore
set_option linter.unusedVariables false

theorem w64 {n : Int} (h0 : -9223372036854775808 ≤ n) (h1 : n < 9223372036854775808) : wrap64 n = n := by unfold wrap64; omega
theorem wu64 {n : Int} (h0 : 0 ≤ n) (h1 : n < 18446744073709551616) : IntKind.u64.wrap n = n := by
  have : IntKind.u64.wrap n = n % 18446744073709551616 := by simp [IntKind.wrap, IntKind.bits, IntKind.signed]
  rw [this]; omega
theorem awake15 : casketlaw15_awake.f = some true := by kernel_rfl

/-! ### bytes held against bytes -/
theorem same_ev (a b : List Int) (ha : a.length ≤ 140737488355328) : Ev (fun k => casketref01_Same.f k a b) (decide (a = b)) := by
  unfold casketref01_Same.f
  by_cases hl : (a.length : Int) = (b.length : Int)
  · simp only [if_pos hl]
    have hl' : a.length = b.length := by omega
    have key : ∀ (d i : Nat), a.length - i = d → i ≤ a.length → a.take i = b.take i → Ev (fun k => casketref01_Same.l0 k a b i) (decide (a = b)) := by
      intro d
      induction d with
      | zero =>
        intro i hd hi ht
        refine Ev.step (f := fun _ => some true) (fun k => ?_) ?_
        · simp only [casketref01_Same.l0]; rw [if_neg (by omega)]
        · have : a = b := by
            rw [List.take_of_length_le (by omega), List.take_of_length_le (by omega)] at ht
            exact ht
          rw [decide_eq_true this]
          exact Ev.now _
      | succ d ih =>
        intro i hd hi ht
        have h1 : i < a.length := by omega
        by_cases he : rd a i = rd b i
        · refine Ev.step (f := fun k => casketref01_Same.l0 k a b ((i + 1 : Nat) : Int)) (fun k => ?_) (ih (i + 1) (by omega) (by omega) ?_)
          · simp only [casketref01_Same.l0]
            rw [if_pos (by omega), if_pos (by omega), if_pos (by omega), if_pos he, w64 (by omega) (by omega)]
            rfl
          · rw [List.take_succ_eq_append_getElem h1, List.take_succ_eq_append_getElem (by omega : i < b.length), ht]
            congr 2
            simpa [rd, List.getD_eq_getElem?_getD, h1, (by omega : i < b.length)] using he
        · refine Ev.step (f := fun _ => some false) (fun k => ?_) ?_
          · simp only [casketref01_Same.l0]
            rw [if_pos (by omega), if_pos (by omega), if_pos (by omega), if_neg he]
          · have : ¬ a = b := fun e => he (by rw [e])
            rw [decide_eq_false this]
            exact Ev.now _
    exact key a.length 0 (by omega) (by omega) rfl
  · simp only [if_neg hl]
    have : ¬ a = b := fun e => hl (by rw [e])
    rw [decide_eq_false this]
    exact Ev.now _
theorem same15_ev (a b : List Int) (ha : a.length ≤ 140737488355328) : Ev (fun k => casketlaw15_same.f k a b) (decide (a = b)) := by
  unfold casketlaw15_same.f
  exact Ev.bind (same_ev a b ha) (Ev.now _)

/-! ### words -/
theorem or_zero {x : Int} (h0 : 0 ≤ x) (h1 : x < 4294967296) : Go.bits .or .u32 0 x = x := by
  have := bits_join .u32 32 (by decide) (fun n h0 h1 => by rw [IntKind.wrap_u32]; omega) 32 0 x (by decide) (by decide) (by decide) h0 (by omega) (by omega)
  rw [this, Int.zero_add]
/-- The word of four bytes from place i on. -/
def wd (b : List Int) (i : Nat) : Int :=
  Go.bits .or .u32 (Go.bits .or .u32 (Go.bits .or .u32 (rd b i % 4294967296) (rd b (i + 1 : Nat) % 4294967296 * 256 % 4294967296)) (rd b (i + 2 : Nat) % 4294967296 * 65536 % 4294967296)) (rd b (i + 3 : Nat) % 4294967296 * 16777216 % 4294967296)
def wds (b : List Int) (n : Nat) : List Int := (List.range n).map fun j => wd b (4 * j)
theorem wds_length (b : List Int) (n : Nat) : (wds b n).length = n := by simp [wds]
theorem wds_succ (b : List Int) (n : Nat) : wds b (n + 1) = wds b n ++ [wd b (4 * n)] := by simp [wds, List.range_succ]
theorem words_ev (b : List Int) (n : Nat) (hb : b.length = 4 * n) (hn : n ≤ 1000) : Ev (fun k => casketref15_words.f k b) (wds b n) := by
  unfold casketref15_words.f
  have key : ∀ (d j : Nat), n - j = d → j ≤ n → Ev (fun k => casketref15_words.l0 k b (wds b j) ((4 * j : Nat) : Int)) (wds b n) := by
    intro d
    induction d with
    | zero =>
      intro j hd hj
      obtain rfl : j = n := by omega
      refine Ev.step (f := fun _ => some (wds b j)) (fun k => ?_) (Ev.now _)
      simp only [casketref15_words.l0]; rw [if_neg (by rw [w64 (by omega) (by omega)]; omega)]
    | succ d ih =>
      intro j hd hj
      refine Ev.step (f := fun k => casketref15_words.l0 k b (wds b (j + 1)) ((4 * (j + 1) : Nat) : Int)) (fun k => ?_) (ih (j + 1) (by omega) (by omega))
      simp only [casketref15_words.l0]
      rw [w64 (n := ((4 * j : Nat) : Int) + 3) (by omega) (by omega), w64 (n := ((4 * j : Nat) : Int) + 1) (by omega) (by omega), w64 (n := ((4 * j : Nat) : Int) + 2) (by omega) (by omega), w64 (n := ((4 * j : Nat) : Int) + 4) (by omega) (by omega)]
      rw [if_pos (by omega), if_pos (by omega), if_pos (by omega), if_pos (by omega), if_pos (by omega), if_pos (by omega), if_pos (by omega), if_pos (by omega), if_pos (by rw [wds_length]; omega), wds_succ]
      rfl
  exact key n 0 (by omega) (by omega)
theorem rd_set (l : List Int) (i : Nat) (v : Int) (h : i < l.length) : rd (l.set i v) i = v := by simp [rd, List.getD_eq_getElem?_getD, h]
theorem rd_append_left (l m : List Int) (i : Nat) (h : i < l.length) : rd (l ++ m) i = rd l i := by simp [rd, List.getD_eq_getElem?_getD, List.getElem?_append, h]
theorem lay4 (p : Int) (b l : List Int) (n : Nat) (hp : 0 ≤ p) (hn : p + n < l.length) (h0 : rd (layN p b l (4 * n)) (p + n) = 0) :
    layN p b l (4 * (n + 1)) = (layN p b l (4 * n)).set (p + n).toNat (wd b (4 * n)) := by
  obtain ⟨q, rfl⟩ := Int.eq_ofNat_of_zero_le hp
  have hlen := layN_length (q : Int) b l (4 * n)
  have hi : q + n < (layN (q : Int) b l (4 * n)).length := by omega
  have s1 : layN (q : Int) b l (4 * n + 1) = (layN q b l (4 * n)).set (q + n) (rd b (4 * n : Nat) % 4294967296) := by
    rw [layN, show ((q : Int) + ((4 * n : Nat) : Int) / 4) = (q : Int) + n by omega, h0, show 4 * n % 4 = 0 by omega, show ((q : Int) + (n : Int)).toNat = q + n by omega]
    congr 1
    simp only [Nat.mul_zero, Int.pow_zero, Int.mul_one]
    rw [or_zero (by omega) (by omega)]
    omega
  have s2 : layN (q : Int) b l (4 * n + 2) = (layN q b l (4 * n)).set (q + n) (Go.bits .or .u32 (rd b (4 * n : Nat) % 4294967296) (rd b (4 * n + 1 : Nat) % 4294967296 * 256 % 4294967296)) := by
    rw [layN, s1, show ((q : Int) + ((4 * n + 1 : Nat) : Int) / 4) = ((q + n : Nat) : Int) by omega, rd_set _ _ _ hi, show (4 * n + 1) % 4 = 1 by omega]
    simp only [Int.toNat_natCast, List.set_set]
    rfl
  have s3 : layN (q : Int) b l (4 * n + 3) = (layN q b l (4 * n)).set (q + n) (Go.bits .or .u32 (Go.bits .or .u32 (rd b (4 * n : Nat) % 4294967296) (rd b (4 * n + 1 : Nat) % 4294967296 * 256 % 4294967296)) (rd b (4 * n + 2 : Nat) % 4294967296 * 65536 % 4294967296)) := by
    rw [layN, s2, show ((q : Int) + ((4 * n + 2 : Nat) : Int) / 4) = ((q + n : Nat) : Int) by omega, rd_set _ _ _ hi, show (4 * n + 2) % 4 = 2 by omega]
    simp only [Int.toNat_natCast, List.set_set]
    rfl
  have s4 : layN (q : Int) b l (4 * n + 4) = (layN q b l (4 * n)).set (q + n) (wd b (4 * n)) := by
    rw [layN, s3, show ((q : Int) + ((4 * n + 3 : Nat) : Int) / 4) = ((q + n : Nat) : Int) by omega, rd_set _ _ _ hi, show (4 * n + 3) % 4 = 3 by omega]
    simp only [Int.toNat_natCast, List.set_set]
    rfl
  rw [show 4 * (n + 1) = 4 * n + 4 by omega, s4, show ((q : Int) + (n : Int)).toNat = q + n by omega]
/-- Words laid over noughts: what stood ahead, the words, what stands behind. -/
theorem lay_words (b pre suf : List Int) : ∀ n : Nat, n ≤ suf.length → (∀ i, i < n → suf[i]? = some 0) → layN (pre.length : Int) b (pre ++ suf) (4 * n) = pre ++ wds b n ++ suf.drop n
  | 0, _, _ => by simp [layN, wds]
  | n + 1, hn, hz => by
    have ih := lay_words b pre suf n (by omega) (fun i hi => hz i (by omega))
    have hs : suf.drop n = 0 :: suf.drop (n + 1) := by
      rw [List.drop_eq_getElem_cons (by omega)]
      congr 1
      have := hz n (by omega)
      rw [List.getElem?_eq_getElem (by omega)] at this
      exact Option.some.inj this
    have h0 : rd (layN (pre.length : Int) b (pre ++ suf) (4 * n)) ((pre.length : Int) + n) = 0 := by
      rw [ih, hs]
      have : ((pre.length : Int) + n).toNat = (pre ++ wds b n).length := by rw [List.length_append, wds_length]; omega
      unfold rd
      rw [this, List.getD_eq_getElem?_getD, List.getElem?_append_right (Nat.le_refl _)]
      simp
    rw [lay4 _ _ _ _ (by omega) (by rw [List.length_append]; omega) h0, ih, hs, wds_succ]
    have : ((pre.length : Int) + n).toNat = (pre ++ wds b n).length := by rw [List.length_append, wds_length]; omega
    rw [this, List.set_append_right _ _ (Nat.le_refl _), Nat.sub_self, List.set_cons_zero]
    simp
theorem first_eq (l0 : List Int) (a1 : Int) (l2 : List Int) (h0 : l0.length = 32) (h2 : l2.length = 12) :
    firstW l0 a1 l2 = [1634760805, 857760878, 2036477234, 1797285236] ++ wds l0 8 ++ [a1] ++ wds l2 3 := by
  unfold firstW
  have e1 := lay_words l0 [1634760805, 857760878, 2036477234, 1797285236] (List.replicate 12 0) 8 (by simp) (fun i hi => by rw [List.getElem?_replicate, if_pos (by omega)])
  have e1' : layN 4 l0 consts l0.length = [1634760805, 857760878, 2036477234, 1797285236] ++ wds l0 8 ++ [0, 0, 0, 0] := by rw [h0]; exact e1
  rw [e1']
  have e2 : ([1634760805, 857760878, 2036477234, 1797285236] ++ wds l0 8 ++ [0, 0, 0, 0] : List Int).set 12 a1 = ([1634760805, 857760878, 2036477234, 1797285236] ++ wds l0 8 ++ [a1]) ++ [0, 0, 0] := by
    have hl : ([1634760805, 857760878, 2036477234, 1797285236] ++ wds l0 8 : List Int).length = 12 := by rw [List.length_append, wds_length]; rfl
    rw [List.set_append_right _ _ (by omega), hl]
    simp
  rw [e2]
  have e3 := lay_words l2 ([1634760805, 857760878, 2036477234, 1797285236] ++ wds l0 8 ++ [a1]) [0, 0, 0] 3 (by simp) (fun i hi => by
    match i, hi with
    | 0, _ => rfl
    | 1, _ => rfl
    | 2, _ => rfl)
  have hl : ([1634760805, 857760878, 2036477234, 1797285236] ++ wds l0 8 ++ [a1] : List Int).length = 13 := by rw [List.length_append, List.length_append, wds_length]; rfl
  rw [hl] at e3
  rw [h2]
  rw [show (4 * 3 : Nat) = 12 from rfl] at e3
  exact e3.trans (by simp)

/-! ### the reference's block -/
theorem turn_f (l : List Int) (i j k m : Int) (hl : l.length = 16) (hi : 0 ≤ i ∧ i < 16) (hj : 0 ≤ j ∧ j < 16) (hk : 0 ≤ k ∧ k < 16) (hm : 0 ≤ m ∧ m < 16) : casketref15_turn.f l i j k m = some (turn4 l i j k m) := by
  rw [refturn_f l i j k m hi.1 (by omega) hj.1 (by omega) hk.1 (by omega) hm.1 (by omega)]
  rfl
theorem rnd_eq (l : List Int) (n : Nat) : rndN l (n + 1) = turn4 (turn4 (turn4 (turn4 (turn4 (turn4 (turn4 (turn4 (rndN l n) 0 4 8 12) 1 5 9 13) 2 6 10 14) 3 7 11 15) 0 5 10 15) 1 6 11 12) 2 7 8 13) 3 4 9 14 := rfl
theorem out_ev (t f : List Int) (ht : t.length = 16) (hf : f.length = 16) : Ev (fun k => casketref15_Block.l1 k f t [] 0) (outN t f 16, 0) := by
  have key : ∀ (d j : Nat), 16 - j = d → j ≤ 16 → Ev (fun k => casketref15_Block.l1 k f t (outN t f j) (j : Int)) (outN t f 16, 0) := by
    intro d
    induction d with
    | zero =>
      intro j hd hj
      obtain rfl : j = 16 := by omega
      refine Ev.step (f := fun _ => some (outN t f 16, 0)) (fun k => ?_) (Ev.now _)
      simp only [casketref15_Block.l1]; rw [if_neg (by omega)]
    | succ d ih =>
      intro j hd hj
      refine Ev.step (f := fun k => casketref15_Block.l1 k f t (outN t f (j + 1)) ((j + 1 : Nat) : Int)) (fun k => ?_) (ih (j + 1) (by omega) (by omega))
      simp only [casketref15_Block.l1]
      rw [if_pos (by omega), if_pos (by omega), if_pos (by omega), if_pos (by omega), w64 (by omega) (by omega)]
      simp only [Option.bind_some]
      rw [if_pos (by rw [outN_length]; simp; omega)]
      have : ((rd t j + rd f j) % 4294967296) % 256 = (rd t j + rd f j) % 256 := by omega
      rw [this]
      rfl
  exact key 16 0 (by omega) (by omega)
theorem rounds_ev (f : List Int) (hf : f.length = 16) : Ev (fun k => casketref15_Block.l0 k f f 0) (outN (rndN f 10) f 16, 0) := by
  have key : ∀ (d j : Nat), 10 - j = d → j ≤ 10 → Ev (fun k => casketref15_Block.l0 k f (rndN f j) (j : Int)) (outN (rndN f 10) f 16, 0) := by
    intro d
    induction d with
    | zero =>
      intro j hd hj
      obtain rfl : j = 10 := by omega
      refine Ev.step (f := fun k => casketref15_Block.l1 k f (rndN f 10) [] 0) (fun k => ?_) (out_ev _ _ (by rw [rndN_length]; exact hf) hf)
      simp only [casketref15_Block.l0]; rw [if_neg (by omega)]
    | succ d ih =>
      intro j hd hj
      refine Ev.step (f := fun k => casketref15_Block.l0 k f (rndN f (j + 1)) ((j + 1 : Nat) : Int)) (fun k => ?_) (ih (j + 1) (by omega) (by omega))
      simp only [casketref15_Block.l0]
      have hl := rndN_length f j
      rw [if_pos (by omega)]
      rw [turn_f _ _ _ _ _ (by omega) (by decide) (by decide) (by decide) (by decide)]; simp only [Option.bind_some]
      rw [turn_f _ _ _ _ _ (by simp only [turn4_length]; omega) (by decide) (by decide) (by decide) (by decide)]; simp only [Option.bind_some]
      rw [turn_f _ _ _ _ _ (by simp only [turn4_length]; omega) (by decide) (by decide) (by decide) (by decide)]; simp only [Option.bind_some]
      rw [turn_f _ _ _ _ _ (by simp only [turn4_length]; omega) (by decide) (by decide) (by decide) (by decide)]; simp only [Option.bind_some]
      rw [turn_f _ _ _ _ _ (by simp only [turn4_length]; omega) (by decide) (by decide) (by decide) (by decide)]; simp only [Option.bind_some]
      rw [turn_f _ _ _ _ _ (by simp only [turn4_length]; omega) (by decide) (by decide) (by decide) (by decide)]; simp only [Option.bind_some]
      rw [turn_f _ _ _ _ _ (by simp only [turn4_length]; omega) (by decide) (by decide) (by decide) (by decide)]; simp only [Option.bind_some]
      rw [turn_f _ _ _ _ _ (by simp only [turn4_length]; omega) (by decide) (by decide) (by decide) (by decide)]; simp only [Option.bind_some]
      rw [w64 (by omega) (by omega), rnd_eq]
      rfl
  exact key 10 0 (by omega) (by omega)
theorem refblock_ev (l0 : List Int) (a1 : Int) (l2 : List Int) (h0 : l0.length = 32) (h2 : l2.length = 12) : Ev (fun k => casketref15_Block.f k l0 a1 l2) (blockW l0 a1 l2, 0) := by
  unfold casketref15_Block.f
  have ha : (l0.length : Int) = 32 := by omega
  have hb : ((l2.length : Int) != 12) = false := by rw [bne_eq_false_iff_eq]; omega
  simp only [if_pos ha, hb]
  refine Ev.step (fun k => by simp only [casketref15_Block.j0, if_neg Bool.false_ne_true, Option.bind_some]; rfl) ?_
  refine Ev.bind (words_ev l0 8 (by omega) (by omega)) ?_
  have hw : ([1634760805, 857760878, 2036477234, 1797285236] : List Int).length + (wds l0 8).length < 35184372088832 := by rw [wds_length]; decide
  simp only [if_pos hw]
  have hw2 : ([1634760805, 857760878, 2036477234, 1797285236] ++ wds l0 8 : List Int).length < 35184372088832 := by rw [List.length_append, wds_length]; decide
  simp only [if_pos hw2]
  refine Ev.bind (words_ev l2 3 (by omega) (by omega)) ?_
  have hw3 : ([1634760805, 857760878, 2036477234, 1797285236] ++ wds l0 8 ++ [a1] : List Int).length + (wds l2 3).length < 35184372088832 := by rw [List.length_append, List.length_append, wds_length, wds_length]; simp
  simp only [if_pos hw3]
  have hw4 : ([] : List Int).length + ([1634760805, 857760878, 2036477234, 1797285236] ++ wds l0 8 ++ [a1] ++ wds l2 3 : List Int).length < 35184372088832 := by rw [List.length_append, List.length_append, List.length_append, wds_length, wds_length]; simp
  simp only [if_pos hw4]
  rw [← first_eq l0 a1 l2 h0 h2]
  exact rounds_ev (firstW l0 a1 l2) (firstW_length l0 a1 l2)
theorem refblock_none (l0 : List Int) (a1 : Int) (l2 : List Int) (h : ¬(l0.length = 32 ∧ l2.length = 12)) : Ev (fun k => casketref15_Block.f k l0 a1 l2) ([], 1) := by
  unfold casketref15_Block.f
  have hj : Ev (fun k => casketref15_Block.j0 k l0 a1 l2 true) ([], 1) := Ev.step (f := fun _ => some ([], 1)) (fun k => by simp only [casketref15_Block.j0, if_true]) (Ev.now _)
  by_cases h0 : l0.length = 32
  · have ha : (l0.length : Int) = 32 := by omega
    have hb : ((l2.length : Int) != 12) = true := by rw [bne_iff_ne]; omega
    simp only [if_pos ha, hb]
    exact hj
  · have ha : ¬(l0.length : Int) = 32 := by omega
    simp only [if_neg ha]
    exact hj
/-! ### bytes and streams -/
theorem wf_u8 {x : Int} (h : (Lit.int .u8 x).wf = true) : 0 ≤ x ∧ x < 256 := by
  simp only [Lit.wf, Bool.and_eq_true, decide_eq_true_eq] at h
  have h1 : IntKind.u8.min = 0 := by decide
  have h2 : IntKind.u8.max = 255 := by decide
  omega
theorem wf_u32 {x : Int} (h : (Lit.int .u32 x).wf = true) : 0 ≤ x ∧ x < 4294967296 := by
  simp only [Lit.wf, Bool.and_eq_true, decide_eq_true_eq] at h
  have h1 : IntKind.u32.min = 0 := by decide
  have h2 : IntKind.u32.max = 4294967295 := by decide
  omega
def Bytes (l : List Int) : Prop := ∀ x ∈ l, 0 ≤ x ∧ x < 256
theorem bytes_of {l : List Int} (h : ∀ x ∈ l, (Lit.int .u8 x).wf = true) : Bytes l := fun x hx => wf_u8 (h x hx)
theorem bytes_rd {l : List Int} (h : Bytes l) (i : Int) : 0 ≤ rd l i ∧ rd l i < 256 := by
  unfold rd
  rw [List.getD_eq_getElem?_getD]
  cases hh : l[i.toNat]? with
  | none => simp
  | some x => exact h x (List.mem_of_getElem? hh)
theorem xor_nat (a b : Nat) (ha : a < 256) (hb : b < 256) : Go.bits .xor .u8 (a : Int) (b : Int) = ((a ^^^ b : Nat) : Int) := by
  have ha' : a % 2 ^ IntKind.u8.bits = a := Nat.mod_eq_of_lt ha
  have hb' : b % 2 ^ IntKind.u8.bits = b := Nat.mod_eq_of_lt hb
  have hx : a ^^^ b < 2 ^ 8 := Nat.xor_lt_two_pow ha hb
  simp only [Go.bits, BitVec.ofInt_natCast, BitVec.toNat_xor, BitVec.toNat_ofNat, ha', hb']
  rw [IntKind.wrap_u8]
  omega
theorem xor_range (a b : Int) : 0 ≤ Go.bits .xor .u8 a b ∧ Go.bits .xor .u8 a b < 256 := by
  simp only [Go.bits]
  rw [IntKind.wrap_u8]
  omega
theorem xor_back (a b : Int) (ha : 0 ≤ a ∧ a < 256) (hb : 0 ≤ b ∧ b < 256) : Go.bits .xor .u8 (Go.bits .xor .u8 a b) b = a := by
  obtain ⟨a, rfl⟩ := Int.eq_ofNat_of_zero_le ha.1
  obtain ⟨b, rfl⟩ := Int.eq_ofNat_of_zero_le hb.1
  rw [xor_nat a b (by omega) (by omega), xor_nat _ b (Nat.xor_lt_two_pow (n := 8) (by omega) (by omega)) (by omega), Nat.xor_assoc, Nat.xor_self, Nat.xor_zero]
theorem xor_diff (a c b : Int) (ha : 0 ≤ a ∧ a < 256) (hc : 0 ≤ c ∧ c < 256) (hb : 0 ≤ b ∧ b < 256) : Go.bits .xor .u8 (Go.bits .xor .u8 a b) (Go.bits .xor .u8 c b) = Go.bits .xor .u8 a c := by
  obtain ⟨a, rfl⟩ := Int.eq_ofNat_of_zero_le ha.1
  obtain ⟨c, rfl⟩ := Int.eq_ofNat_of_zero_le hc.1
  obtain ⟨b, rfl⟩ := Int.eq_ofNat_of_zero_le hb.1
  rw [xor_nat a b (by omega) (by omega), xor_nat c b (by omega) (by omega), xor_nat a c (by omega) (by omega), xor_nat _ _ (Nat.xor_lt_two_pow (n := 8) (by omega) (by omega)) (Nat.xor_lt_two_pow (n := 8) (by omega) (by omega))]
  congr 1
  rw [Nat.xor_assoc, ← Nat.xor_assoc b c b, Nat.xor_comm b c, Nat.xor_assoc c b b, Nat.xor_self, Nat.xor_zero]
theorem xor_zero (b : Int) (hb : 0 ≤ b ∧ b < 256) : Go.bits .xor .u8 0 b = b := by
  obtain ⟨b, rfl⟩ := Int.eq_ofNat_of_zero_le hb.1
  have := xor_nat 0 b (by omega) (by omega)
  rw [Nat.zero_xor] at this
  exact this
theorem le4_bytes (x : Int) : Bytes (le4 x) := by
  intro y hy
  simp only [le4, List.mem_cons, List.not_mem_nil, or_false] at hy
  omega
theorem outN_bytes (t f : List Int) : ∀ k, Bytes (outN t f k)
  | 0 => fun x hx => by cases hx
  | k + 1 => fun x hx => by
    rw [outN, List.mem_append] at hx
    rcases hx with hx | hx
    · exact outN_bytes t f k x hx
    · exact le4_bytes _ x hx
theorem blockW_bytes (l0 : List Int) (a1 : Int) (l2 : List Int) : Bytes (blockW l0 a1 l2) := outN_bytes _ _ _
theorem streamN_rd (l0 : List Int) (a1 : Int) (l2 b : List Int) (m i : Nat) (hi : i < b.length) : rd (streamN l0 a1 l2 b m) i = if i < m then streamB l0 a1 l2 b i else 0 := by
  unfold streamN rd
  rw [Int.toNat_natCast, List.getD_eq_getElem?_getD, List.getElem?_map, List.getElem?_range hi]
  rfl
theorem streamW_rd (l0 : List Int) (a1 : Int) (l2 b : List Int) (i : Nat) (hi : i < b.length) : rd (streamW l0 a1 l2 b) i = streamB l0 a1 l2 b i := by
  unfold streamW
  rw [streamN_rd _ _ _ _ _ _ hi, if_pos hi]
theorem streamW_length (l0 : List Int) (a1 : Int) (l2 b : List Int) : (streamW l0 a1 l2 b).length = b.length := streamN_length ..
theorem streamW_bytes (l0 : List Int) (a1 : Int) (l2 b : List Int) : Bytes (streamW l0 a1 l2 b) := by
  intro x hx
  unfold streamW streamN at hx
  rw [List.mem_map] at hx
  obtain ⟨i, hi, rfl⟩ := hx
  rw [if_pos (List.mem_range.1 hi)]
  exact xor_range _ _
theorem list_ext {a b : List Int} (h : a.length = b.length) (hr : ∀ i : Nat, i < a.length → rd a i = rd b i) : a = b := by
  apply List.ext_getElem h
  intro i h1 h2
  have := hr i h1
  simpa [rd, List.getD_eq_getElem?_getD, h1, h2] using this
theorem stream_back (l0 : List Int) (a1 : Int) (l2 b : List Int) (hb : Bytes b) : streamW l0 a1 l2 (streamW l0 a1 l2 b) = b := by
  apply list_ext
  · rw [streamW_length, streamW_length]
  · intro i hi
    rw [streamW_length, streamW_length] at hi
    rw [streamW_rd _ _ _ _ _ (by rw [streamW_length]; exact hi)]
    unfold streamB
    rw [streamW_rd _ _ _ _ _ hi]
    unfold streamB
    exact xor_back _ _ (bytes_rd hb _) (bytes_rd (blockW_bytes _ _ _) _)
theorem stream_take (l0 : List Int) (a1 : Int) (l2 b : List Int) (k : Nat) : (streamW l0 a1 l2 b).take k = streamW l0 a1 l2 (b.take k) := by
  apply list_ext
  · rw [List.length_take, streamW_length, streamW_length, List.length_take]
  · intro i hi
    rw [List.length_take, streamW_length] at hi
    rw [streamW_rd _ _ _ _ _ (by rw [List.length_take]; omega)]
    have h1 : rd ((streamW l0 a1 l2 b).take k) i = rd (streamW l0 a1 l2 b) i := by
      simp [rd, List.getD_eq_getElem?_getD, (by omega : i < k)]
    have h2 : rd (b.take k) i = rd b i := by
      simp [rd, List.getD_eq_getElem?_getD, (by omega : i < k)]
    rw [h1, streamW_rd _ _ _ _ _ (by omega)]
    unfold streamB
    rw [h2]
theorem stream_drop (l0 : List Int) (a1 : Int) (l2 b : List Int) : (streamW l0 a1 l2 b).drop 64 = streamW l0 ((a1 + 1) % 4294967296) l2 (b.drop 64) := by
  apply list_ext
  · rw [List.length_drop, streamW_length, streamW_length, List.length_drop]
  · intro i hi
    rw [List.length_drop, streamW_length] at hi
    rw [streamW_rd _ _ _ _ _ (by rw [List.length_drop]; omega)]
    have h1 : rd ((streamW l0 a1 l2 b).drop 64) i = rd (streamW l0 a1 l2 b) ((64 + i : Nat) : Int) := by
      simp only [rd, Int.toNat_natCast, List.getD_eq_getElem?_getD, List.getElem?_drop]
    have h2 : rd (b.drop 64) i = rd b ((64 + i : Nat) : Int) := by
      simp only [rd, Int.toNat_natCast, List.getD_eq_getElem?_getD, List.getElem?_drop]
    rw [h1, streamW_rd _ _ _ _ _ (by omega)]
    unfold streamB
    rw [h2, show (64 + i) % 64 = i % 64 by omega, show (a1 + ((64 + i) / 64 : Nat)) % 4294967296 = ((a1 + 1) % 4294967296 + (i / 64 : Nat)) % 4294967296 by omega]
theorem stream_f (k : Nat) (l0 : List Int) (a1 : Int) (l2 b : List Int) (h0 : l0.length = 32) (h2 : l2.length = 12) (hb : b.length ≤ 140737488351232) (ha : 0 ≤ a1 ∧ a1 < 4294967296) :
    chacha_Stream.f k l0 a1 l2 b = if ((b.length : Int) + 63) / 64 ≤ 4294967296 - a1 then some (streamW l0 a1 l2 b, 0) else some ([], 4) := by
  unfold chacha_Stream.f
  rw [if_pos ⟨h0, h2⟩, if_pos ⟨hb, ha.1, ha.2⟩]
theorem stream_f_none (k : Nat) (l0 : List Int) (a1 : Int) (l2 b : List Int) (h : ¬(l0.length = 32 ∧ l2.length = 12)) : chacha_Stream.f k l0 a1 l2 b = some ([], 1) := by
  unfold chacha_Stream.f
  rw [if_neg h]
theorem block_f (l0 : List Int) (a1 : Int) (l2 : List Int) (h0 : l0.length = 32) (h2 : l2.length = 12) : chacha_Block.f l0 a1 l2 = some (blockW l0 a1 l2, 0) := by
  unfold chacha_Block.f chacha_right.f chacha_block.f
  rw [h0, h2]
  rfl
theorem block_f_none (l0 : List Int) (a1 : Int) (l2 : List Int) (h : ¬(l0.length = 32 ∧ l2.length = 12)) : chacha_Block.f l0 a1 l2 = some ([], 1) := by
  have : chacha_right.f l0 l2 = some false := by
    unfold chacha_right.f
    by_cases h0 : l0.length = 32
    · rw [if_pos (by omega)]
      have h2 : ((l2.length : Int) == 12) = false := by rw [beq_eq_false_iff_ne]; omega
      rw [h2]
    · rw [if_neg (by omega)]
  unfold chacha_Block.f
  rw [this]
  rfl
theorem take_snoc_rd (l : List Int) (m : Nat) (h : m < l.length) : l.take (m + 1) = l.take m ++ [rd l m] := by
  rw [List.take_succ_eq_append_getElem h]
  simp [rd, List.getD_eq_getElem?_getD, h]
/-- The reference's stream. -/
theorem refstream_ev (l0 : List Int) (a1 : Int) (l2 b : List Int) (h0 : l0.length = 32) (h2 : l2.length = 12) (hb : b.length ≤ 100000) (ha : 0 ≤ a1 ∧ a1 < 4294967296) :
    Ev (fun k => casketref15_Stream.f k l0 a1 l2 b) (if ((b.length : Int) + 63) / 64 ≤ 4294967296 - a1 then (streamW l0 a1 l2 b, 0) else ([], 4)) := by
  have hS := streamW_length l0 a1 l2 b
  have inner : ∀ (r : List Int × Int) (q : Nat), 64 * q < b.length → Ev (fun k => casketref15_Stream.l0 k l0 l2 b ((streamW l0 a1 l2 b).take (min (64 * q + 64) b.length)) a1 ((64 * q + 1 : Nat) : Int)) r →
      ∀ (d j : Nat), 64 - j = d → j ≤ 64 → 64 * q + j ≤ b.length → Ev (fun k => casketref15_Stream.l1 k l0 l2 b ((streamW l0 a1 l2 b).take (64 * q + j)) a1 ((64 * q : Nat) : Int) (blockW l0 ((a1 + q) % 4294967296) l2) (j : Int)) r := by
    intro r q hq hr d
    induction d with
    | zero =>
      intro j hd hj hn
      obtain rfl : j = 64 := by omega
      refine Ev.step (f := fun k => casketref15_Stream.l0 k l0 l2 b ((streamW l0 a1 l2 b).take (min (64 * q + 64) b.length)) a1 ((64 * q + 1 : Nat) : Int)) (fun k => ?_) hr
      simp only [casketref15_Stream.l1]
      rw [if_neg (by omega), w64 (by omega) (by omega), Nat.min_eq_left hn]
      rfl
    | succ d ih =>
      intro j hd hj hn
      by_cases he : 64 * q + j < b.length
      · refine Ev.step (f := fun k => casketref15_Stream.l1 k l0 l2 b ((streamW l0 a1 l2 b).take (64 * q + (j + 1))) a1 ((64 * q : Nat) : Int) (blockW l0 ((a1 + q) % 4294967296) l2) ((j + 1 : Nat) : Int)) (fun k => ?_) (ih (j + 1) (by omega) (by omega) (by omega))
        simp only [casketref15_Stream.l1]
        rw [w64 (n := ((64 * q : Nat) : Int) + (j : Int)) (by omega) (by omega), w64 (n := (j : Int) + 1) (by omega) (by omega)]
        rw [if_pos (by omega), if_pos (by omega), if_pos (by omega), if_pos (by omega), if_pos (by rw [blockW_length]; omega), if_pos (by rw [List.length_take]; omega)]
        have e : (streamW l0 a1 l2 b).take (64 * q + (j + 1)) = (streamW l0 a1 l2 b).take (64 * q + j) ++ [Go.bits .xor .u8 (rd b (((64 * q : Nat) : Int) + (j : Int))) (rd (blockW l0 ((a1 + (q : Int)) % 4294967296) l2) (j : Int))] := by
          rw [← Nat.add_assoc, take_snoc_rd _ _ (by omega), streamW_rd _ _ _ _ _ he]
          unfold streamB
          rw [show (64 * q + j) / 64 = q by omega, show (64 * q + j) % 64 = j by omega, Int.natCast_add (64 * q) j]
        rw [e]
        rfl
      · refine Ev.step (f := fun k => casketref15_Stream.l0 k l0 l2 b ((streamW l0 a1 l2 b).take (min (64 * q + 64) b.length)) a1 ((64 * q + 1 : Nat) : Int)) (fun k => ?_) hr
        simp only [casketref15_Stream.l1]
        rw [w64 (n := ((64 * q : Nat) : Int) + (j : Int)) (by omega) (by omega)]
        rw [if_pos (by omega), if_neg (by omega), w64 (by omega) (by omega), show min (64 * q + 64) b.length = 64 * q + j by omega]
        rfl
  have outer : ∀ (d i : Nat), b.length - i = d → i ≤ b.length → (i = 0 ∨ a1 + ((i - 1 : Nat) : Int) / 64 ≤ 4294967295) →
      Ev (fun k => casketref15_Stream.l0 k l0 l2 b ((streamW l0 a1 l2 b).take (min (64 * ((i + 63) / 64)) b.length)) a1 (i : Int)) (if ((b.length : Int) + 63) / 64 ≤ 4294967296 - a1 then (streamW l0 a1 l2 b, 0) else ([], 4)) := by
    intro d
    induction d with
    | zero =>
      intro i hd hi hp
      obtain rfl : i = b.length := by omega
      refine Ev.step (f := fun _ => some (streamW l0 a1 l2 b, 0)) (fun k => ?_) ?_
      · simp only [casketref15_Stream.l0]
        rw [if_neg (by omega), List.take_of_length_le (by rw [hS]; omega)]
      · rw [if_pos (by omega)]
        exact Ev.now _
    | succ d ih =>
      intro i hd hi hp
      have hdiv : Int.tdiv (i : Int) 64 = (i : Int) / 64 := Int.tdiv_eq_ediv_of_nonneg (by omega)
      have hmod : Int.tmod (i : Int) 64 = (i : Int) % 64 := Int.tmod_eq_emod_of_nonneg (by omega)
      have hwr : IntKind.u64.wrap (a1 + IntKind.u64.wrap (wrap64 (Int.tdiv (i : Int) 64))) = a1 + (i : Int) / 64 := by
        rw [hdiv, w64 (by omega) (by omega), wu64 (n := (i : Int) / 64) (by omega) (by omega), wu64 (by omega) (by omega)]
      by_cases hlim : a1 + (i : Int) / 64 > 4294967295
      · refine Ev.step (f := fun _ => some ([], 4)) (fun k => ?_) ?_
        · simp only [casketref15_Stream.l0]
          rw [if_pos (by omega), hwr, if_pos hlim]
        · rw [if_neg (by omega)]
          exact Ev.now _
      · have ih' := ih (i + 1) (by omega) (by omega) (.inr (by simp only [Nat.add_sub_cancel]; omega))
        by_cases h64 : (i : Int) % 64 = 0
        · obtain ⟨q, rfl⟩ : ∃ q, i = 64 * q := ⟨i / 64, by omega⟩
          rw [show (64 * q + 1 + 63) / 64 = q + 1 by omega, show 64 * (q + 1) = 64 * q + 64 by omega] at ih'
          have hin := inner _ q (by omega) ih' 64 0 rfl (by omega) (by omega)
          refine Ev.step (f := fun k => (casketref15_Block.f k l0 ((a1 + q) % 4294967296) l2).bind fun bt => casketref15_Stream.l1 k l0 l2 b ((streamW l0 a1 l2 b).take (64 * q + 0)) a1 ((64 * q : Nat) : Int) bt.1 ((0 : Nat) : Int)) (fun k => ?_) (Ev.bind (refblock_ev l0 _ l2 h0 h2) hin)
          simp only [casketref15_Stream.l0]
          rw [if_pos (by omega), hwr, if_neg hlim, hmod, if_pos h64, show min (64 * ((64 * q + 63) / 64)) b.length = 64 * q + 0 by omega, show (a1 + ((64 * q : Nat) : Int) / 64) = a1 + (q : Int) by omega]
          rfl
        · refine Ev.step (f := fun k => casketref15_Stream.l0 k l0 l2 b ((streamW l0 a1 l2 b).take (min (64 * ((i + 1 + 63) / 64)) b.length)) a1 ((i + 1 : Nat) : Int)) (fun k => ?_) ih'
          simp only [casketref15_Stream.l0]
          rw [if_pos (by omega), hwr, if_neg hlim, hmod, if_neg h64, w64 (by omega) (by omega), show (i + 1 + 63) / 64 = (i + 63) / 64 by omega]
          rfl
  unfold casketref15_Stream.f
  have hla : (l0.length : Int) = 32 := by omega
  have hlb : ((l2.length : Int) != 12) = false := by rw [bne_eq_false_iff_eq]; omega
  simp only [if_pos hla, hlb]
  refine Ev.step (f := fun k => casketref15_Stream.l0 k l0 l2 b [] a1 0) (fun k => ?_) ?_
  · simp only [casketref15_Stream.j0, if_neg Bool.false_ne_true]
    rw [wu64 (by omega) (by omega)]
  · have := outer b.length 0 (by omega) (by omega) (.inl rfl)
    simpa using this
theorem refstream_none (l0 : List Int) (a1 : Int) (l2 b : List Int) (h : ¬(l0.length = 32 ∧ l2.length = 12)) : Ev (fun k => casketref15_Stream.f k l0 a1 l2 b) ([], 1) := by
  unfold casketref15_Stream.f
  have hj : Ev (fun k => casketref15_Stream.j0 k l0 a1 l2 b true) ([], 1) := Ev.step (f := fun _ => some ([], 1)) (fun k => by simp only [casketref15_Stream.j0, if_true]) (Ev.now _)
  by_cases h0 : l0.length = 32
  · have ha : (l0.length : Int) = 32 := by omega
    have hb : ((l2.length : Int) != 12) = true := by rw [bne_iff_ne]; omega
    simp only [if_pos ha, hb]
    exact hj
  · have ha : ¬(l0.length : Int) = 32 := by omega
    simp only [if_neg ha]
    exact hj
/-! ### masks -/
theorem andmask (x : Int) (m : Nat) (hm : m < 2 ^ 62) : 0 ≤ Go.bits .and .i64 x m ∧ Go.bits .and .i64 x m ≤ m := by
  have h1 : (BitVec.ofInt IntKind.i64.bits x &&& BitVec.ofInt IntKind.i64.bits (m : Int)).toNat ≤ m := by
    rw [BitVec.toNat_and, BitVec.ofInt_natCast, BitVec.toNat_ofNat, Nat.mod_eq_of_lt (a := m) (Nat.lt_trans hm (by decide))]
    exact Nat.and_le_right
  simp only [Go.bits]
  rw [IntKind.wrap_i64]
  omega
theorem and1023 (x : Int) : 0 ≤ Go.bits .and .i64 x 1023 := (andmask x 1023 (by decide)).1
theorem and255 (x : Int) : 0 ≤ Go.bits .and .i64 x 255 ∧ Go.bits .and .i64 x 255 ≤ 255 := andmask x 255 (by decide)
end Go.Proofs.Ytllaobhheokafaa.F
