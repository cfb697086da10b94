/- Plain facts on the slow reference of Poly1305: the whole tag is what the program's tag is. No program in sight; each fact under the conditions that it states. -/
import Derived.Test.YtllaobhheokafaaFrefr
namespace Go.Proofs.Ytllaobhheokafaa.F
open Go.RowKit Go.Proofs.Ytllaobhheokafaa.Q Go.Proofs.YtllaobhheokafaaW.PrintWords Go.Proofs.YtllaobhheokafaaW.PrintLast Go.Proofs.YtllaobhheokafaaW.PrintMore
set_option linter.unusedVariables false
set_option linter.unusedSimpArgs false
theorem and_tab : (List.range 256).all (fun x => decide (Go.bits .and .u8 (x : Nat) 15 = ((x % 16 : Nat) : Int)) && decide (Go.bits .and .u8 (x : Nat) 252 = ((x - x % 4 : Nat) : Int))) = true := by kernel_rfl
theorem and15 (x : Int) (h : 0 ≤ x ∧ x < 256) : Go.bits .and .u8 x 15 = x % 16 := by
  obtain ⟨n, rfl⟩ := Int.eq_ofNat_of_zero_le h.1
  have := List.all_eq_true.mp and_tab n (List.mem_range.mpr (by omega))
  rw [Bool.and_eq_true, decide_eq_true_eq, decide_eq_true_eq] at this
  rw [this.1]
  rfl
theorem and252 (x : Int) (h : 0 ≤ x ∧ x < 256) : Go.bits .and .u8 x 252 = x - x % 4 := by
  obtain ⟨n, rfl⟩ := Int.eq_ofNat_of_zero_le h.1
  have := List.all_eq_true.mp and_tab n (List.mem_range.mpr (by omega))
  rw [Bool.and_eq_true, decide_eq_true_eq, decide_eq_true_eq] at this
  rw [this.2]
  omega
theorem andN_bytes' (l : List Int) (p : Nat) (m : Int) (h : Bytes l) : ∀ j, Bytes (andN l p m j)
  | 0 => h
  | j + 1 => by
    rw [andN]
    refine (andN_bytes' l p m h j).set _ ?_
    show 0 ≤ IntKind.u8.wrap _ ∧ IntKind.u8.wrap _ < 256
    rw [IntKind.wrap_u8]
    omega
theorem clampB_bytes {key : List Int} (h : Bytes key) : Bytes (clampB key) := andN_bytes' _ _ _ (andN_bytes' _ _ _ (h.take 16) _) _
theorem clamped_ev (key : List Int) (hk : Bytes key) (hl : 16 ≤ key.length) : Ev (fun k => casketref16_Clamped.f k key) (clampB key) := by
  unfold casketref16_Clamped.f
  have c1 : (16 : Int) ≤ (key.length : Int) := by omega
  simp only [if_pos c1]
  have B := hk.take 16
  have L : (key.take 16).length = 16 := by rw [List.length_take]; omega
  refine Ev.bind (number_ev _ B (by omega)) ?_
  obtain ⟨K, hK⟩ : ∃ K, K = key.take 16 := ⟨_, rfl⟩
  rw [show clampB key = andN (andN K 3 15 4) 4 252 3 by rw [hK]; rfl, ← hK]
  rw [← hK] at B L
  have B1 := andN_bytes' K 3 15 B
  have L1 := andN_length K 3 15
  obtain ⟨K2, hK2⟩ : ∃ K2, K2 = andN K 3 15 4 := ⟨_, rfl⟩
  have hK2B : Bytes K2 := by rw [hK2]; exact B1 4
  have hK2l : K2.length = 16 := by rw [hK2, L1, L]
  rw [← hK2]
  have second : ∀ (d j : Nat), 3 - j = d → j ≤ 3 → Ev (fun k => casketref16_Clamped.l1 k (andN K2 4 252 j) ((4 + 4 * j : Nat) : Int)) (andN K2 4 252 3) := by
    intro d
    induction d with
    | zero =>
      intro j hd hj
      obtain rfl : j = 3 := by omega
      refine Ev.step (f := fun _ => some _) (fun k => ?_) (Ev.now _)
      simp only [casketref16_Clamped.l1]
      rw [if_neg (by omega)]
    | succ d ih =>
      intro j hd hj
      have hx := rd_byte (andN_bytes' K2 4 252 hK2B j) (4 + 4 * j)
      have hlen := andN_length K2 4 252 j
      rw [hK2l] at hlen
      have e3 := Aside0.mk (show wrap64 (((4 + 4 * j : Nat) : Int) + 4) = ((4 + 4 * (j + 1) : Nat) : Int) by rw [w64 (by omega) (by omega)]; omega)
      refine Ev.step (f := fun k => casketref16_Clamped.l1 k (andN K2 4 252 (j + 1)) ((4 + 4 * (j + 1) : Nat) : Int)) (fun k => ?_) (ih (j + 1) (by omega) (by omega))
      simp only [casketref16_Clamped.l1]
      rw [if_pos (by omega), if_pos (by omega), if_pos (by omega), e3.out, Int.toNat_natCast, Int.tmod_eq_emod_of_nonneg (by omega), w64 (by omega) (by omega), andN, and252 _ hx]
  have first : ∀ (d j : Nat), 4 - j = d → j ≤ 4 → Ev (fun k => casketref16_Clamped.l0 k (andN K 3 15 j) ((3 + 4 * j : Nat) : Int)) (andN K2 4 252 3) := by
    intro d
    induction d with
    | zero =>
      intro j hd hj
      obtain rfl : j = 4 := by omega
      rw [← hK2]
      refine Ev.step (f := fun k => casketref16_Clamped.l1 k K2 4) (fun k => ?_) (second 3 0 rfl (by omega))
      simp only [casketref16_Clamped.l0]
      rw [if_neg (by omega)]
    | succ d ih =>
      intro j hd hj
      have hx := rd_byte (B1 j) (3 + 4 * j)
      have hlen := L1 j
      rw [L] at hlen
      have e3 := Aside0.mk (show wrap64 (((3 + 4 * j : Nat) : Int) + 4) = ((3 + 4 * (j + 1) : Nat) : Int) by rw [w64 (by omega) (by omega)]; omega)
      refine Ev.step (f := fun k => casketref16_Clamped.l0 k (andN K 3 15 (j + 1)) ((3 + 4 * (j + 1) : Nat) : Int)) (fun k => ?_) (ih (j + 1) (by omega) (by omega))
      simp only [casketref16_Clamped.l0]
      rw [if_pos (by omega), if_pos (by omega), if_pos (by omega), e3.out, Int.toNat_natCast, Int.tmod_eq_emod_of_nonneg (by omega), andN, and15 _ hx]
  exact first 4 0 rfl (by omega)
/-- The bytes that are told at the end. -/
theorem tell_ev (c : List Int) (hc : Bytes c) (hl : c.length ≤ 1000) : Ev (fun k => casketref16_MAC.l1 k c [] 0) (dig (val c), 0) := by
  have hdl := dig_length (val c)
  have hd : ∀ k : Nat, k < 16 → rd (dig (val c)) (k : Nat) = rd c (k : Nat) := fun k hk => by
    rw [rd_dig _ _ hk, ← NK_val c (c.length + 16) (by omega), NK_digit c (rd_byte hc) _ _ (by omega)]
  have key : ∀ (d i : Nat), 16 - i = d → i ≤ 16 → Ev (fun k => casketref16_MAC.l1 k c ((dig (val c)).take i) (i : Nat)) (dig (val c), 0) := by
    intro d
    induction d with
    | zero =>
      intro i hd2 hi
      obtain rfl : i = 16 := by omega
      refine Ev.step (f := fun _ => some (dig (val c), 0)) (fun k => ?_) (Ev.now _)
      simp only [casketref16_MAC.l1]
      rw [if_neg (by omega), List.take_of_length_le (by omega)]
    | succ d ih =>
      intro i hd2 hi
      have hx := rd_byte hc i
      have hdi := hd i (by omega)
      have e3 := Aside0.mk (show wrap64 ((i : Int) + 1) = ((i + 1 : Nat) : Int) by rw [w64 (by omega) (by omega)]; rfl)
      have ht : (dig (val c)).take (i + 1) = (dig (val c)).take i ++ [rd c (i : Nat)] := by
        rw [List.take_succ_eq_append_getElem (by omega), ← hdi, rd_get _ i (by omega)]
      have hll : ((dig (val c)).take i).length = i := by rw [List.length_take]; omega
      refine Ev.step (f := fun k => casketref16_MAC.l1 k c ((dig (val c)).take (i + 1)) ((i + 1 : Nat) : Int)) (fun k => ?_) (ih (i + 1) (by omega) (by omega))
      simp only [casketref16_MAC.l1]
      rw [if_pos (by omega)]
      by_cases h : (i : Int) < c.length
      · rw [if_pos h, if_pos (by omega), if_pos (by omega), e3.out, ht, show rd c (i : Nat) % 256 = rd c (i : Nat) by omega]
      · have hz : rd c (i : Nat) = 0 := rd_far _ _ (by omega)
        rw [if_neg h, if_pos (by omega), e3.out, ht, hz]
  exact key 16 0 rfl (by omega)
theorem refmac_ev (key b : List Int) (hk : Bytes key) (hkl : key.length = 32) (hb : Bytes b) (hbl : b.length ≤ 100000) : Ev (fun k => casketref16_MAC.f k key b) (macP key b, 0) := by
  unfold casketref16_MAC.f
  have c1 : (key.length : Int) = 32 := by omega
  simp only [if_pos c1]
  refine Ev.bind (clamped_ev key hk (by omega)) ?_
  obtain ⟨r, hr⟩ : ∃ r, r = clampB key := ⟨_, rfl⟩
  have hrB : Bytes r := by rw [hr]; exact clampB_bytes hk
  have hrl : r.length = 16 := by rw [hr]; exact clampB_length key (by omega)
  have hm := macP_eq hk hkl hb (by rw [← hr]; exact hrB)
  rw [hm, ← hr]
  have hR : NK r 16 = val r := by rw [val, hrl]
  rw [hR]
  have loop : ∀ (d m : Nat) (a : List Int), (b.length + 15) / 16 - m = d → m ≤ (b.length + 15) / 16 → Bytes a → a.length ≤ 17 → val a = Hn (val r) b m % P130 → Ev (fun k => casketref16_MAC.l0 k key b r a ((16 * m : Nat) : Int)) (dig (Hn (val r) b ((b.length + 15) / 16) % P130 + NK (key.drop 16) 16), 0) := by
    intro d
    induction d with
    | zero =>
      intro m a hd hm haB hal hv
      obtain rfl : m = (b.length + 15) / 16 := by omega
      have hsB := hk.drop 16
      have hsl : (key.drop 16).length = 16 := by rw [List.length_drop]; omega
      obtain ⟨c, hc, q1, q2, q3⟩ := add_ev a (key.drop 16) haB hsB (by omega) (by omega)
      have hS : val (key.drop 16) = NK (key.drop 16) 16 := by rw [val, hsl]
      have ht := tell_ev c q1 (by omega)
      rw [q3, hv, hS] at ht
      refine Ev.step (f := fun k => (casketref16_number.f k (key.drop 16)).bind fun t451 => ((casketref16_add.f k a t451).bind fun t454 => (casketref16_MAC.l1 k t454 ([] : List Int) 0))) (fun k => ?_) (Ev.bind (number_ev _ hsB (by omega)) (Ev.bind hc ht))
      simp only [casketref16_MAC.l0]
      rw [if_neg (by omega), if_pos (by omega)]
    | succ d ih =>
      intro m a hd hm haB hal hv
      have hlt : 16 * m < b.length := by omega
      have hpl := pieceL_length b m
      have hpB : Bytes (pieceL b m) := (hb.take _).drop _
      have hp1 := pieceL_bytes hb m
      obtain ⟨c, hc, c1, c2, c3⟩ := add_ev a (pieceL b m ++ [1]) haB hp1 (by omega) (by rw [List.length_append]; simp only [List.length_cons, List.length_nil]; omega)
      rw [List.length_append] at c2
      simp only [List.length_cons, List.length_nil] at c2
      obtain ⟨u, hu, u1, u2, u3⟩ := mul_ev c r c1 hrB (by omega) (by omega)
      obtain ⟨w, hw, w1, w2, w3⟩ := rest_ev u u1 (by omega)
      have hv2 : val w = Hn (val r) b (m + 1) % P130 := by
        rw [w3, u3, c3, hv, Hn, Int.mul_emod, Int.emod_add_emod, ← Int.mul_emod]
        rfl
      have e1 := Aside0.mk (show wrap64 (((16 * m : Nat) : Int) + 16) = ((16 * (m + 1) : Nat) : Int) by rw [w64 (by omega) (by omega)]; omega)
      have e2 : mn ((16 * (m + 1) : Nat) : Int) (b.length : Int) = ((min (16 * (m + 1)) b.length : Nat) : Int) := by unfold mn; omega
      have e4 : (b.take (min (16 * (m + 1)) b.length)).drop (16 * m) = pieceL b m := by
        rw [pieceL, show 16 * m + 16 = 16 * (m + 1) by omega]
        rcases Nat.le_total (16 * (m + 1)) b.length with h | h
        · rw [Nat.min_eq_left h]
        · rw [Nat.min_eq_right h, List.take_length, List.take_of_length_le h]
      refine Ev.step (f := fun k => (casketref16_number.f k (pieceL b m)).bind fun t435 => (if t435.length < 17592186044416 then ((casketref16_add.f k a (t435 ++ [1])).bind fun t441 => ((casketref16_mul.f k t441 r).bind fun t444 => ((casketref16_rest.f k t444).bind fun t447 => (casketref16_MAC.l0 k key b r t447 ((16 * (m + 1) : Nat) : Int))))) else (none))) (fun k => ?_) (Ev.bind (number_ev _ hpB (by omega)) ?_)
      · simp only [casketref16_MAC.l0]
        rw [if_pos (by omega), if_pos (by omega), e1.out, e2, if_pos (by omega), if_pos (by omega), Int.toNat_natCast, Int.toNat_natCast, e4]
      · have c4 : (pieceL b m).length < 17592186044416 := by omega
        simp only [if_pos c4]
        exact Ev.bind hc (Ev.bind hu (Ev.bind hw (ih (m + 1) w (by omega) (by omega) w1 w2 hv2)))
  exact loop _ 0 [] rfl (by omega) Bytes.nil (by decide) (by simp [Hn, val, NK])
theorem refmac_none (k : Nat) (key b : List Int) (h : key.length ≠ 32) : casketref16_MAC.f k key b = some ([], 1) := by
  unfold casketref16_MAC.f
  rw [if_neg (by omega)]
end Go.Proofs.Ytllaobhheokafaa.F
