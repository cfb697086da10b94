/- Plain facts on what the program's SHA-256 and the reference's come to: the same sums. No program in sight; each fact under the conditions that it states. -/
import Derived.Test.YtgdogjnjbinoiaaDoorDshaX
import Derived.Test.YtgdogjnjbinoiaaDoorDref13
import Derived.Laws.BitsLemmas
import Derived.KernelRfl
namespace Go.Proofs.YtgdogjnjbinoiaaDoor.F
open Go.RowKit Go.Proofs.YtgdogjnjbinoiaaDoor.Q Go.Proofs.YtgdogjnjbinoiaaDoorW.PrintWords Go.Proofs.YtgdogjnjbinoiaaDoorW.PrintLast Go.Proofs.YtgdogjnjbinoiaaDoorW.PrintMore
set_option linter.unusedVariables false

theorem w64 {n : Int} (h0 : -9223372036854775808 ≤ n) (h1 : n < 9223372036854775808) : wrap64 n = n := by unfold wrap64; omega
theorem wu64 {n : Int} (h0 : 0 ≤ n) (h1 : n < 18446744073709551616) : IntKind.u64.wrap n = n := by
  have : IntKind.u64.wrap n = n % 18446744073709551616 := by simp [IntKind.wrap, IntKind.bits, IntKind.signed]
  rw [this]; omega

/-! ### bytes held against bytes -/
theorem same_ev (a b : List Int) (ha : a.length ≤ 140737488355328) : Ev (fun k => casketref01_Same.f k a b) (decide (a = b)) := by
  unfold casketref01_Same.f
  by_cases hl : (a.length : Int) = (b.length : Int)
  · simp only [if_pos hl]
    have hl' : a.length = b.length := by omega
    have key : ∀ (d i : Nat), a.length - i = d → i ≤ a.length → a.take i = b.take i → Ev (fun k => casketref01_Same.l0 k a b i) (decide (a = b)) := by
      intro d
      induction d with
      | zero =>
        intro i hd hi ht
        refine Ev.step (f := fun _ => some true) (fun k => ?_) ?_
        · simp only [casketref01_Same.l0]; rw [if_neg (by omega)]
        · have : a = b := by
            rw [List.take_of_length_le (by omega), List.take_of_length_le (by omega)] at ht
            exact ht
          rw [decide_eq_true this]
          exact Ev.now _
      | succ d ih =>
        intro i hd hi ht
        have h1 : i < a.length := by omega
        by_cases he : rd a i = rd b i
        · refine Ev.step (f := fun k => casketref01_Same.l0 k a b ((i + 1 : Nat) : Int)) (fun k => ?_) (ih (i + 1) (by omega) (by omega) ?_)
          · simp only [casketref01_Same.l0]
            rw [if_pos (by omega), if_pos (by omega), if_pos (by omega), if_pos he, w64 (by omega) (by omega)]
            rfl
          · rw [List.take_succ_eq_append_getElem h1, List.take_succ_eq_append_getElem (by omega : i < b.length), ht]
            congr 2
            simpa [rd, List.getD_eq_getElem?_getD, h1, (by omega : i < b.length)] using he
        · refine Ev.step (f := fun _ => some false) (fun k => ?_) ?_
          · simp only [casketref01_Same.l0]
            rw [if_pos (by omega), if_pos (by omega), if_pos (by omega), if_neg he]
          · have : ¬ a = b := fun e => he (by rw [e])
            rw [decide_eq_false this]
            exact Ev.now _
    exact key a.length 0 (by omega) (by omega) rfl
  · simp only [if_neg hl]
    have : ¬ a = b := fun e => hl (by rw [e])
    rw [decide_eq_false this]
    exact Ev.now _
theorem same13_ev (a b : List Int) (ha : a.length ≤ 140737488355328) : Ev (fun k => casketlaw20_same.f k a b) (decide (a = b)) := by
  unfold casketlaw20_same.f
  exact Ev.bind (same_ev a b ha) (Ev.now _)
theorem same13_yes (a : List Int) (ha : a.length ≤ 140737488355328) : Ev (fun k => casketlaw20_same.f k a a) true := by
  have := same13_ev a a ha
  simpa using this
/-! ### bytes -/
theorem wf_u8 {x : Int} (h : (Lit.int .u8 x).wf = true) : 0 ≤ x ∧ x < 256 := by
  simp only [Lit.wf, Bool.and_eq_true, decide_eq_true_eq] at h
  have h1 : IntKind.u8.min = 0 := by decide
  have h2 : IntKind.u8.max = 255 := by decide
  omega
def Bytes (l : List Int) : Prop := ∀ x ∈ l, 0 ≤ x ∧ x < 256
theorem bytes_of {l : List Int} (h : ∀ x ∈ l, (Lit.int .u8 x).wf = true) : Bytes l := fun x hx => wf_u8 (h x hx)
theorem bytes_rd {l : List Int} (h : Bytes l) (i : Int) : 0 ≤ rd l i ∧ rd l i < 256 := by
  unfold rd
  rw [List.getD_eq_getElem?_getD]
  cases hh : l[i.toNat]? with
  | none => simp
  | some x => exact h x (List.mem_of_getElem? hh)
theorem Bytes.append {a b : List Int} (ha : Bytes a) (hb : Bytes b) : Bytes (a ++ b) := fun x hx => by
  rcases List.mem_append.1 hx with h | h
  · exact ha x h
  · exact hb x h
theorem Bytes.take {a : List Int} (ha : Bytes a) (n : Nat) : Bytes (a.take n) := fun x hx => ha x (List.mem_of_mem_take hx)
theorem Bytes.drop {a : List Int} (ha : Bytes a) (n : Nat) : Bytes (a.drop n) := fun x hx => ha x (List.mem_of_mem_drop hx)
/-! ### words -/
theorem wrap32_id (n : Int) (h0 : 0 ≤ n) (h1 : n < 2 ^ 32) : IntKind.u32.wrap n = n := by rw [IntKind.wrap_u32]; omega
theorem or_add (i : Nat) (x y : Int) (h0 : 0 ≤ x) (h1 : x % 2 ^ i = 0) (h2 : x < 4294967296) (h3 : 0 ≤ y) (h4 : y < 2 ^ i) (h5 : y < 4294967296) : Go.bits .or .u32 x y = x + y :=
  bits_join .u32 32 (by decide) wrap32_id i x y h0 h1 (by omega) h3 h4 (by omega)
theorem or_comm (k : IntKind) (x y : Int) : Go.bits .or k x y = Go.bits .or k y x := by
  simp only [Go.bits]
  rw [BitVec.or_comm]
theorem refrot_f (x n : Int) (h0 : 0 ≤ n) (h1 : n ≤ 32) : casketref13_rot.f x n = some (rr x n) := by
  unfold casketref13_rot.f rr
  rw [wu64 (by omega) (by omega), if_pos h0, if_pos (by omega), or_comm]
/-- A word of four bytes. -/
theorem be_eq (p : List Int) (hp : Bytes p) (t : Nat) : beN p t 4 = rd p (4 * t : Nat) * 16777216 + rd p (4 * t + 1 : Nat) * 65536 + rd p (4 * t + 2 : Nat) * 256 + rd p (4 * t + 3 : Nat) := by
  have b0 := bytes_rd hp ((4 * t : Nat) : Int)
  have b1 := bytes_rd hp ((4 * t + 1 : Nat) : Int)
  have b2 := bytes_rd hp ((4 * t + 2 : Nat) : Int)
  have b3 := bytes_rd hp ((4 * t + 3 : Nat) : Int)
  have e1 : beN p t 1 = rd p (4 * t : Nat) := by
    unfold beN beN
    rw [or_add 8 _ _ (by omega) (by omega) (by omega) (by simp only [Nat.add_zero]; omega) (by simp only [Nat.add_zero]; omega) (by omega)]
    simp only [Nat.add_zero]
    omega
  have e2 : beN p t 2 = rd p (4 * t : Nat) * 256 + rd p (4 * t + 1 : Nat) := by
    rw [beN, e1, or_add 8 _ _ (by omega) (by omega) (by omega) (by omega) (by omega) (by omega)]
    omega
  have e3 : beN p t 3 = rd p (4 * t : Nat) * 65536 + rd p (4 * t + 1 : Nat) * 256 + rd p (4 * t + 2 : Nat) := by
    rw [beN, e2, or_add 8 _ _ (by omega) (by omega) (by omega) (by omega) (by omega) (by omega)]
    omega
  rw [beN, e3, or_add 8 _ _ (by omega) (by omega) (by omega) (by omega) (by omega) (by omega)]
  omega
theorem ref_word (a b c d : Int) (ha : 0 ≤ a ∧ a < 256) (hb : 0 ≤ b ∧ b < 256) (hc : 0 ≤ c ∧ c < 256) (hd : 0 ≤ d ∧ d < 256) :
    Go.bits .or .u32 (Go.bits .or .u32 (Go.bits .or .u32 (((a % 4294967296) * 16777216) % 4294967296) (((b % 4294967296) * 65536) % 4294967296)) (((c % 4294967296) * 256) % 4294967296)) (d % 4294967296) = a * 16777216 + b * 65536 + c * 256 + d := by
  rw [show a % 4294967296 * 16777216 % 4294967296 = a * 16777216 by omega, show b % 4294967296 * 65536 % 4294967296 = b * 65536 by omega, show c % 4294967296 * 256 % 4294967296 = c * 256 by omega, show d % 4294967296 = d by omega]
  rw [or_add 24 (a * 16777216) (b * 65536) (by omega) (by omega) (by omega) (by omega) (by omega) (by omega)]
  rw [or_add 16 (a * 16777216 + b * 65536) (c * 256) (by omega) (by omega) (by omega) (by omega) (by omega) (by omega)]
  rw [or_add 8 _ d (by omega) (by omega) (by omega) (by omega) (by omega) (by omega)]
theorem schedN_next (p : List Int) (t : Nat) (ht : t < 64) : ∃ v, schedN p (t + 1) = (schedN p t).set t v ∧ (t < 16 → v = beN p t 4) ∧ (16 ≤ t → v = schedV (schedN p t) t) := by
  by_cases h : t < 16
  · exact ⟨beN p t 4, by rw [schedN, if_pos h], fun _ => rfl, fun h2 => by omega⟩
  · exact ⟨schedV (schedN p t) t, by rw [schedN, if_neg h], fun h2 => by omega, fun _ => rfl⟩
/-- The words ahead of word t. -/
def wl (p : List Int) (t : Nat) : List Int := (schedN p t).take t
theorem wl_length (p : List Int) (t : Nat) (ht : t ≤ 64) : (wl p t).length = t := by rw [wl, List.length_take, schedN_length]; omega
theorem take_set_succ (l : List Int) (t : Nat) (v : Int) (h : t < l.length) : (l.set t v).take (t + 1) = l.take t ++ [v] := by
  rw [List.take_succ_eq_append_getElem (by simpa using h)]
  congr 1
  · rw [List.take_set, List.set_eq_of_length_le (by simp; omega)]
  · simp
theorem wl_rd (p : List Int) (t : Nat) (i : Int) (h0 : 0 ≤ i) (h1 : i < t) : rd (wl p t) i = rd (schedN p t) i := by
  unfold wl rd
  rw [List.getD_eq_getElem?_getD, List.getD_eq_getElem?_getD, List.getElem?_take_of_lt (by omega)]
theorem wl_first (p : List Int) (t : Nat) (ht : t < 16) : wl p (t + 1) = wl p t ++ [beN p t 4] := by
  obtain ⟨v, h1, h2, _⟩ := schedN_next p t (by omega)
  rw [wl, h1, take_set_succ _ _ _ (by rw [schedN_length]; omega), h2 ht]
  rfl
theorem wl_then (p : List Int) (t : Nat) (h : 16 ≤ t) (ht : t < 64) : wl p (t + 1) = wl p t ++ [schedV (schedN p t) t] := by
  obtain ⟨v, h1, _, h2⟩ := schedN_next p t ht
  rw [wl, h1, take_set_succ _ _ _ (by rw [schedN_length]; omega), h2 h]
  rfl
theorem add4 (s1 w7 s0 w16 : Int) : (((s1 + w7) % 4294967296 + s0) % 4294967296 + w16) % 4294967296 = (w16 + s0 + w7 + s1) % 4294967296 := by omega
theorem words_ev (p : List Int) (hl : p.length = 64) (hp : Bytes p) : Ev (fun k => casketref13_words.f k p) (schedN p 64) := by
  unfold casketref13_words.f
  have hend : wl p 64 = schedN p 64 := List.take_of_length_le (by rw [schedN_length]; omega)
  have key2 : ∀ (d t : Nat), 64 - t = d → 16 ≤ t → t ≤ 64 → Ev (fun k => casketref13_words.l1 k (wl p t) (t : Int)) (schedN p 64) := by
    intro d
    induction d with
    | zero =>
      intro t hd h16 ht
      obtain rfl : t = 64 := by omega
      refine Ev.step (f := fun _ => some (wl p 64)) (fun k => ?_) (by rw [hend]; exact Ev.now _)
      simp only [casketref13_words.l1]; rw [if_neg (by omega)]
    | succ d ih =>
      intro t hd h16 ht
      have hw := wl_length p t ht
      refine Ev.step (f := fun k => casketref13_words.l1 k (wl p (t + 1)) ((t + 1 : Nat) : Int)) (fun k => ?_) (ih (t + 1) (by omega) (by omega) (by omega))
      simp only [casketref13_words.l1]
      rw [w64 (n := (t : Int) - 2) (by omega) (by omega), w64 (n := (t : Int) - 15) (by omega) (by omega), w64 (n := (t : Int) - 7) (by omega) (by omega), w64 (n := (t : Int) - 16) (by omega) (by omega), w64 (n := (t : Int) + 1) (by omega) (by omega)]
      rw [if_pos (by omega), if_pos (by omega), if_pos (by omega), if_pos (by omega), if_pos (by omega)]
      rw [refrot_f _ 17 (by decide) (by decide)]; simp only [Option.bind_some]
      rw [refrot_f _ 19 (by decide) (by decide)]; simp only [Option.bind_some]
      rw [refrot_f _ 7 (by decide) (by decide)]; simp only [Option.bind_some]
      rw [refrot_f _ 18 (by decide) (by decide)]; simp only [Option.bind_some]
      rw [if_pos (by omega), if_pos (by omega), if_pos (by omega), if_pos (by omega), if_pos (by omega)]
      rw [wl_then p t h16 (by omega), wl_rd p t _ (by omega) (by omega), wl_rd p t _ (by omega) (by omega), wl_rd p t _ (by omega) (by omega), wl_rd p t _ (by omega) (by omega)]
      rw [add4]
      rfl
  have key1 : ∀ (d t : Nat), 16 - t = d → t ≤ 16 → Ev (fun k => casketref13_words.l0 k p (wl p t) (t : Int)) (schedN p 64) := by
    intro d
    induction d with
    | zero =>
      intro t hd ht
      obtain rfl : t = 16 := by omega
      refine Ev.step (f := fun k => casketref13_words.l1 k (wl p 16) 16) (fun k => ?_) (key2 48 16 (by omega) (by omega) (by omega))
      simp only [casketref13_words.l0]; rw [if_neg (by omega)]
    | succ d ih =>
      intro t hd ht
      have hw := wl_length p t (by omega)
      refine Ev.step (f := fun k => casketref13_words.l0 k p (wl p (t + 1)) ((t + 1 : Nat) : Int)) (fun k => ?_) (ih (t + 1) (by omega) (by omega))
      simp only [casketref13_words.l0]
      rw [w64 (n := 4 * (t : Int)) (by omega) (by omega), w64 (n := 4 * (t : Int) + 1) (by omega) (by omega), w64 (n := 4 * (t : Int) + 2) (by omega) (by omega), w64 (n := 4 * (t : Int) + 3) (by omega) (by omega), w64 (n := (t : Int) + 1) (by omega) (by omega)]
      rw [if_pos (by omega), if_pos (by omega), if_pos (by omega), if_pos (by omega), if_pos (by omega), if_pos (by omega), if_pos (by omega), if_pos (by omega), if_pos (by omega), if_pos (by omega)]
      rw [ref_word _ _ _ _ (bytes_rd hp _) (bytes_rd hp _) (bytes_rd hp _) (bytes_rd hp _), wl_first p t (by omega), be_eq p hp t]
      rfl
  exact key1 16 0 (by omega) (by omega)
/-! ### a state goes through a piece -/
theorem rd_set_ne (l : List Int) (i j : Nat) (v : Int) (h : i ≠ j) : rd (l.set i v) j = rd l j := by
  unfold rd
  rw [List.getD_eq_getElem?_getD, List.getD_eq_getElem?_getD, Int.toNat_natCast, List.getElem?_set_ne h]
theorem addN_rd (s r : List Int) : ∀ j i : Nat, j ≤ i → rd (addN s r j) i = rd s i
  | 0, _, _ => rfl
  | j + 1, i, h => by rw [addN, rd_set_ne _ _ _ _ (by omega), addN_rd s r j i (by omega)]
theorem add5 (h x y k w : Int) : ((((h + x) % 4294967296 + y) % 4294967296 + k) % 4294967296 + w) % 4294967296 = (h + x + y + k + w) % 4294967296 := by omega
theorem out_ev (s r : List Int) (hs : s.length = 8) (hr : r.length = 8) : Ev (fun k => casketref13_through.l1 k s r [] 0) (addN s r 8) := by
  have key : ∀ (d j : Nat), 8 - j = d → j ≤ 8 → Ev (fun k => casketref13_through.l1 k s r ((addN s r j).take j) (j : Int)) (addN s r 8) := by
    intro d
    induction d with
    | zero =>
      intro j hd hj
      obtain rfl : j = 8 := by omega
      refine Ev.step (f := fun _ => some ((addN s r 8).take 8)) (fun k => ?_) (by rw [List.take_of_length_le (by rw [addN_length]; omega)]; exact Ev.now _)
      simp only [casketref13_through.l1]; rw [if_neg (by omega)]
    | succ d ih =>
      intro j hd hj
      have hl := addN_length s r j
      refine Ev.step (f := fun k => casketref13_through.l1 k s r ((addN s r (j + 1)).take (j + 1)) ((j + 1 : Nat) : Int)) (fun k => ?_) (ih (j + 1) (by omega) (by omega))
      simp only [casketref13_through.l1]
      rw [if_pos (by omega), if_pos (by omega), if_pos (by omega), if_pos (by omega), if_pos (by rw [List.length_take]; omega), w64 (by omega) (by omega)]
      rw [addN, take_set_succ _ _ _ (by omega), addN_rd s r j j (Nat.le_refl _)]
      rfl
  exact key 8 0 (by omega) (by omega)
theorem through_ev (s p : List Int) (hs : s.length = 8) (hl : p.length = 64) (hp : Bytes p) : Ev (fun k => casketref13_through.f k s p kTable) (throughW s p) := by
  unfold casketref13_through.f
  refine Ev.bind (words_ev p hl hp) ?_
  simp only [Option.bind_some]
  refine Ev.congr (f := fun k => casketref13_through.l0 k s kTable (schedN p 64) s 0) (fun k => by rw [if_pos (by simp; omega)]; rfl) ?_
  have hsl := schedN_length p 64
  unfold throughW
  generalize schedN p 64 = W at hsl ⊢
  have hk : kTable.length = 64 := rfl
  generalize kTable = T at hk ⊢
  have key : ∀ (d t : Nat), 64 - t = d → t ≤ 64 → Ev (fun k => casketref13_through.l0 k s T W (roundsN s T W t) (t : Int)) (addN s (roundsN s T W 64) 8) := by
    intro d
    induction d with
    | zero =>
      intro t hd ht
      obtain rfl : t = 64 := by omega
      refine Ev.step (f := fun k => casketref13_through.l1 k s (roundsN s T W 64) [] 0) (fun k => ?_) (out_ev s _ hs (roundsN_length s T W hs 64))
      simp only [casketref13_through.l0]; rw [if_neg (by omega)]
    | succ d ih =>
      intro t hd ht
      refine Ev.step (f := fun k => casketref13_through.l0 k s T W (roundsN s T W (t + 1)) ((t + 1 : Nat) : Int)) (fun k => ?_) (ih (t + 1) (by omega) (by omega))
      have h8 := roundsN_length s T W hs t
      rw [roundsN]
      generalize roundsN s T W t = S at h8 ⊢
      obtain ⟨a, b, c, d, e, f, g, h, rfl⟩ : ∃ a b c d e f g h : Int, S = [a, b, c, d, e, f, g, h] := by
        match S, h8 with
        | [a, b, c, d, e, f, g, h], _ => exact ⟨a, b, c, d, e, f, g, h, rfl⟩
      have l8 : (([a, b, c, d, e, f, g, h] : List Int).length : Int) = 8 := rfl
      have r0 : rd [a, b, c, d, e, f, g, h] 0 = a := rfl
      have r1 : rd [a, b, c, d, e, f, g, h] 1 = b := rfl
      have r2 : rd [a, b, c, d, e, f, g, h] 2 = c := rfl
      have r3 : rd [a, b, c, d, e, f, g, h] 3 = d := rfl
      have r4 : rd [a, b, c, d, e, f, g, h] 4 = e := rfl
      have r5 : rd [a, b, c, d, e, f, g, h] 5 = f := rfl
      have r6 : rd [a, b, c, d, e, f, g, h] 6 = g := rfl
      have r7 : rd [a, b, c, d, e, f, g, h] 7 = h := rfl
      simp only [casketref13_through.l0]
      rw [w64 (by omega) (by omega), l8, r0, r1, r2, r3, r4, r5, r6, r7]
      rw [if_pos (by omega), if_pos (by decide), if_pos (by decide), if_pos (by decide)]
      rw [refrot_f _ 6 (by decide) (by decide)]; simp only [Option.bind_some]
      rw [refrot_f _ 11 (by decide) (by decide)]; simp only [Option.bind_some]
      rw [refrot_f _ 25 (by decide) (by decide)]; simp only [Option.bind_some]
      rw [if_pos (by decide), if_pos (by decide), if_pos (by omega), if_pos (by omega), if_pos (by omega)]
      rw [refrot_f _ 2 (by decide) (by decide)]; simp only [Option.bind_some]
      rw [refrot_f _ 13 (by decide) (by decide)]; simp only [Option.bind_some]
      rw [refrot_f _ 22 (by decide) (by decide)]; simp only [Option.bind_some]
      rw [if_pos (by decide), if_pos (by decide), if_pos (by decide), add5 h _ _ (rd T (t : Int)) (rd W (t : Int))]
      rfl
  exact key 64 0 (by omega) (by omega)
/-! ### the padding, and the sum -/
theorem zeros_take (z : Nat) : endL z = endL z := rfl
theorem be8_step (x : Int) (h0 : 0 ≤ x) (j : Nat) (hj : j < 8) : shr .u64 x (IntKind.u64.wrap (wrap64 (8 * (7 - (j : Int))))) % 256 = x / 2 ^ (56 - 8 * j) % 256 := by
  rw [w64 (by omega) (by omega), wu64 (by omega) (by omega)]
  unfold shr
  rw [show min (8 * (7 - (j : Int))).toNat IntKind.u64.bits = 56 - 8 * j by simp [IntKind.bits]; omega]
theorem pad_ev (b : List Int) (hb : b.length ≤ 549755813888) : Ev (fun k => casketref13_padded.f k b) (b ++ padN b.length) := by
  unfold casketref13_padded.f
  simp only [Option.bind_some]
  refine Ev.congr (f := fun k => casketref13_padded.l0 k b (b ++ endL 0)) (fun k => by rw [if_pos (by simp; omega), if_pos (by simp; omega)]; rfl) ?_
  have hx : IntKind.u64.wrap (IntKind.u64.wrap (b.length : Int) * 8) = (b.length : Int) * 8 := by rw [wu64 (n := (b.length : Int)) (by omega) (by omega), wu64 (by omega) (by omega)]
  have key2 : ∀ (d j : Nat) (P : List Int), P.length ≤ 549755814888 → 8 - j = d → j ≤ 8 → Ev (fun k => casketref13_padded.l1 k (P ++ be8N ((b.length : Int) * 8) j) ((b.length : Int) * 8) (7 - (j : Int))) (P ++ be8N ((b.length : Int) * 8) 8) := by
    intro d
    induction d with
    | zero =>
      intro j P hP hd hj
      obtain rfl : j = 8 := by omega
      refine Ev.step (f := fun _ => some (P ++ be8N ((b.length : Int) * 8) 8)) (fun k => ?_) (Ev.now _)
      simp only [casketref13_padded.l1]; rw [if_neg (by omega)]
    | succ d ih =>
      intro j P hP hd hj
      have hl := be8N_length ((b.length : Int) * 8) j
      refine Ev.step (f := fun k => casketref13_padded.l1 k (P ++ be8N ((b.length : Int) * 8) (j + 1)) ((b.length : Int) * 8) (7 - ((j + 1 : Nat) : Int))) (fun k => ?_) (ih (j + 1) P hP (by omega) (by omega))
      simp only [casketref13_padded.l1]
      rw [if_pos (by omega), if_pos (by rw [w64 (by omega) (by omega), wu64 (by omega) (by omega)]; omega), if_pos (by rw [List.length_append]; omega), be8_step _ (by omega) j (by omega), w64 (by omega) (by omega), be8N, List.append_assoc]
      congr 1
      omega
  have key1 : ∀ (d z : Nat), zpad b.length - z = d → z ≤ zpad b.length → Ev (fun k => casketref13_padded.l0 k b (b ++ endL z)) (b ++ padN b.length) := by
    have hz63 : zpad b.length ≤ 63 := by unfold zpad; omega
    intro d
    induction d with
    | zero =>
      intro z hd hz
      obtain rfl : z = zpad b.length := by omega
      have hl := endL_length (zpad b.length)
      refine Ev.step (f := fun k => casketref13_padded.l1 k (b ++ endL (zpad b.length)) ((b.length : Int) * 8) 7) (fun k => ?_) ?_
      · simp only [casketref13_padded.l0]
        rw [if_pos (by rw [List.length_append, hl]; unfold zpad; omega), hx]
      · have := key2 8 0 (b ++ endL (zpad b.length)) (by rw [List.length_append, hl]; omega) (by omega) (by omega)
        rw [be8N, List.append_nil, List.append_assoc] at this
        exact this
    | succ d ih =>
      intro z hd hz
      have hl := endL_length z
      refine Ev.step (f := fun k => casketref13_padded.l0 k b (b ++ endL (z + 1))) (fun k => ?_) (ih (z + 1) (by omega) (by omega))
      simp only [casketref13_padded.l0]
      rw [if_neg (by rw [List.length_append, hl]; unfold zpad at hd; omega), if_pos (by rw [List.length_append]; omega), endL_more, List.append_assoc]
  exact key1 (zpad b.length) 0 (by omega) (by omega)
theorem be8_bytes (x : Int) : ∀ j, Bytes (be8N x j)
  | 0 => fun x hx => by cases hx
  | j + 1 => (be8_bytes x j).append (fun y hy => by
    simp only [List.mem_singleton] at hy
    subst hy
    omega)
theorem endL_bytes (z : Nat) : Bytes (endL z) := fun x hx => by
  simp only [endL, List.mem_cons, List.mem_replicate] at hx
  omega
theorem pad_bytes (n : Nat) : Bytes (padN n) := (endL_bytes _).append (be8_bytes _ _)
theorem refsum_ev (b : List Int) (hb : b.length ≤ 549755813888) (hy : Bytes b) : Ev (fun k => casketref13_Sum.f k b) (shaW b) := by
  unfold casketref13_Sum.f
  have hc : casketref13_Constants.f = some (kTable, hFirst) := rfl
  rw [hc]
  simp only [Option.bind_some]
  refine Ev.bind (pad_ev b hb) ?_
  have hpl := padN_length b.length
  have hz63 : zpad b.length ≤ 63 := by unfold zpad; omega
  have hpb : Bytes (b ++ padN b.length) := hy.append (pad_bytes _)
  have hlen : (b ++ padN b.length).length = 64 * ((b.length + (padN b.length).length) / 64) := by
    rw [List.length_append, hpl]; unfold zpad; omega
  unfold shaW
  generalize (b.length + (padN b.length).length) / 64 = m at hlen ⊢
  have hm : m ≤ 8589934600 := by rw [List.length_append] at hlen; omega
  generalize b ++ padN b.length = P at hpb hlen ⊢
  have h8 : ∀ k, (foldB P k).length = 8 := foldB_length P
  have key2 : ∀ (d j : Nat), 8 - j = d → j ≤ 8 → Ev (fun k => casketref13_Sum.l1 k (foldB P m) (bytesN (foldB P m) j) (j : Int)) (bytesN (foldB P m) 8) := by
    intro d
    induction d with
    | zero =>
      intro j hd hj
      obtain rfl : j = 8 := by omega
      refine Ev.step (f := fun _ => some (bytesN (foldB P m) 8)) (fun k => ?_) (Ev.now _)
      simp only [casketref13_Sum.l1]; rw [if_neg (by omega)]
    | succ d ih =>
      intro j hd hj
      have hl := bytesN_length (foldB P m) j
      refine Ev.step (f := fun k => casketref13_Sum.l1 k (foldB P m) (bytesN (foldB P m) (j + 1)) ((j + 1 : Nat) : Int)) (fun k => ?_) (ih (j + 1) (by omega) (by omega))
      simp only [casketref13_Sum.l1]
      rw [if_pos (by omega), if_pos (by omega), if_pos (by rw [h8]; omega)]
      simp only [Option.bind_some]
      rw [if_pos (by simp only [List.length_cons, List.length_nil]; omega), w64 (by omega) (by omega)]
      rfl
  have key1 : ∀ (d j : Nat), m - j = d → j ≤ m → Ev (fun k => casketref13_Sum.l0 k kTable (foldB P j) P ((64 * j : Nat) : Int)) (bytesN (foldB P m) 8) := by
    intro d
    induction d with
    | zero =>
      intro j hd hj
      obtain rfl : j = m := by omega
      refine Ev.step (f := fun k => casketref13_Sum.l1 k (foldB P j) [] 0) (fun k => ?_) (key2 8 0 (by omega) (by omega))
      simp only [casketref13_Sum.l0]; rw [if_neg (by omega)]
    | succ d ih =>
      intro j hd hj
      refine Ev.step (f := fun k => (casketref13_through.f k (foldB P j) ((P.drop (64 * j)).take 64) kTable).bind fun t => casketref13_Sum.l0 k kTable t P ((64 * (j + 1) : Nat) : Int)) (fun k => ?_) ?_
      · simp only [casketref13_Sum.l0]
        rw [w64 (by omega) (by omega), if_pos (by omega), if_pos (by omega), if_pos (by omega), if_pos (by omega)]
        rw [show (((64 * j : Nat) : Int) + 64).toNat = 64 * j + 64 by omega, Int.toNat_natCast, ← List.take_drop]
        rfl
      · exact Ev.bind (through_ev _ _ (h8 j) (by rw [List.length_take, List.length_drop]; omega) ((hpb.drop _).take _)) (ih (j + 1) (by omega) (by omega))
  exact key1 m 0 (by omega) (by omega)
theorem sha_f (b : List Int) (hb : b.length ≤ 549755813888) : sha_Sum.f b = some (shaW b) := by unfold sha_Sum.f; rw [if_pos hb]
end Go.Proofs.YtgdogjnjbinoiaaDoor.F
