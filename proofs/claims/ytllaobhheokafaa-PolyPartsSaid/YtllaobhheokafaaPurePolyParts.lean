/- What b and r come to, and s: the pure statement. -/
import Derived.Test.YtllaobhheokafaaDPolyParts
import Derived.Test.YtllaobhheokafaaDref16
import Derived.Test.YtllaobhheokafaaFpo4
namespace Go.Proofs.Ytllaobhheokafaa.Pure
open Go.RowKit Go.Proofs.Ytllaobhheokafaa.Q Go.Proofs.Ytllaobhheokafaa.F Go.Proofs.YtllaobhheokafaaW.PrintWords Go.Proofs.YtllaobhheokafaaW.PrintLast Go.Proofs.YtllaobhheokafaaW.PrintMore
set_option linter.unusedVariables false
set_option linter.unusedSimpArgs false
/-- Two numbers of sixteen bytes, modulo 2^128. -/
theorem plus_ev (a b : List Int) (ha : Bytes a) (hb : Bytes b) (hal : a.length = 16) (hbl : b.length = 16) : Ev (fun k => casketlaw16_plus.f k a b) (dig (NK a 16 + NK b 16)) := by
  unfold casketlaw16_plus.f
  have key : ∀ (d i : Nat) (out : List Int) (c : Int), 16 - i = d → i ≤ 16 → out.length = i → Bytes out → (0 ≤ c ∧ c ≤ 1) → NK out i + c * 256 ^ i = NK a i + NK b i → Ev (fun k => casketlaw16_plus.l0 k a b out c (i : Nat)) (dig (NK a 16 + NK b 16)) := by
    intro d
    induction d with
    | zero =>
      intro i out c hd hi hl hB hc hv
      obtain rfl : i = 16 := by omega
      have e : dig (NK a 16 + NK b 16) = out := by
        rw [← hv, p16, Int.mul_comm, dig_mod, dig_self hB hl]
      rw [e]
      refine Ev.step (f := fun _ => some out) (fun k => ?_) (Ev.now _)
      simp only [casketlaw16_plus.l0]
      rw [if_neg (by omega)]
    | succ d ih =>
      intro i out c hd hi hl hB hc hv
      have hx := rd_byte ha i
      have hy := rd_byte hb i
      obtain ⟨v, hvv⟩ : ∃ v, v = rd a (i : Nat) + rd b (i : Nat) + c := ⟨_, rfl⟩
      have B2 : Bytes (out ++ [v % 256]) := Bytes.append hB (fun x hx => by rw [List.mem_singleton] at hx; omega)
      refine Ev.step (f := fun k => casketlaw16_plus.l0 k a b (out ++ [v % 256]) (v / 256) ((i + 1 : Nat) : Int)) (fun k => ?_) (ih (i + 1) (out ++ [v % 256]) (v / 256) (by omega) (by omega) (by rw [List.length_append, hl]; rfl) B2 (by omega) ?_)
      · simp only [casketlaw16_plus.l0]
        rw [if_pos (by omega), if_pos (by omega), if_pos (by omega), if_pos (by omega), if_pos (by omega)]
        rw [w64 (n := rd a (i : Nat)) (by omega) (by omega), w64 (n := rd b (i : Nat)) (by omega) (by omega), w64 (n := rd a (i : Nat) + rd b (i : Nat)) (by omega) (by omega), w64 (n := rd a (i : Nat) + rd b (i : Nat) + c) (by omega) (by omega), ← hvv, Int.tdiv_eq_ediv_of_nonneg (by omega), w64 (n := v / 256) (by omega) (by omega), w64 (by omega) (by omega)]
        rfl
      · have e1 : NK (out ++ [v % 256]) i = NK out i := NK_congr _ _ i (fun k hk => rd_append_left _ _ _ (by omega))
        have e2 : rd (out ++ [v % 256]) ((i : Nat) : Int) = v % 256 := by
          rw [rd_get _ _ (by simp; omega), List.getElem_append_right (by omega)]
          simp [hl]
        rw [NK, NK, NK, e1, e2, Int.pow_succ]
        have e3 : v % 256 = v - 256 * (v / 256) := by omega
        obtain ⟨q, hq⟩ : ∃ q, q = v / 256 := ⟨_, rfl⟩
        rw [e3, ← hq, hvv]
        grind
  exact key 16 0 [] 0 rfl (by omega) rfl (fun x hx => by cases hx) (by decide) (by simp [NK])
theorem clamp_left (r s t : List Int) (h : r.length = 16) : clampB (r ++ s) = clampB (r ++ t) := by rw [clampB, clampB, List.take_left' h, List.take_left' h]
theorem and_range (x m : Int) : 0 ≤ Go.bits .and .u8 x m ∧ Go.bits .and .u8 x m < 256 := by
  show 0 ≤ IntKind.u8.wrap _ ∧ IntKind.u8.wrap _ < 256
  rw [IntKind.wrap_u8]
  omega
theorem andN_bytes (l : List Int) (p : Nat) (m : Int) (h : Bytes l) : ∀ j, Bytes (andN l p m j)
  | 0 => h
  | j + 1 => fun x hx => by
    rw [andN] at hx
    rcases List.mem_or_eq_of_mem_set hx with h1 | h1
    · exact andN_bytes l p m h j x h1
    · rw [h1]; exact and_range _ _
theorem clamp_bytes {key : List Int} (h : Bytes key) : Bytes (clampB key) := andN_bytes _ _ _ (andN_bytes _ _ _ (fun x hx => h x (List.mem_of_mem_take hx)) _) _
theorem Hn_zero (b : List Int) : ∀ k, Hn 0 b k = 0
  | 0 => rfl
  | k + 1 => by rw [Hn, Int.mul_zero]
theorem PolyParts : casketlaw16_PolyParts.Pure := by
  intro r s b _ _ hr _ _ hs _ _ hb
  apply Ev.rounds
  unfold casketlaw16_PolyParts.f
  rw [awake16]
  simp only [Option.bind_some]
  have long : Ev (fun k => casketlaw16_PolyParts.j0 k r s b true true) true := Ev.step (f := fun _ => some true) (fun k => by simp only [casketlaw16_PolyParts.j0]; rfl) (Ev.now _)
  by_cases h1 : (r.length : Int) = 16
  · simp only [if_pos h1]
    by_cases h2 : (s.length : Int) = 16
    · simp only [if_pos h2]
      by_cases h3 : (b.length : Int) > 600
      · simp only [decide_eq_true h3]
        exact long
      · simp only [decide_eq_false h3]
        have Hr := bytes_of hr
        have Hs := bytes_of hs
        have Hb := bytes_of hb
        have hrl : r.length = 16 := by omega
        have hsl : s.length = 16 := by omega
        have hz : Bytes (List.replicate 16 0) := fun x hx => by rw [List.eq_of_mem_replicate hx]; decide
        have B1 := Bytes.append Hr Hs
        have B2 := Bytes.append Hr hz
        have B3 := Bytes.append hz Hs
        have l1 : (r ++ s).length = 32 := by rw [List.length_append]; omega
        have l2 : (r ++ List.replicate 16 (0 : Int)).length = 32 := by rw [List.length_append, List.length_replicate]; omega
        have l3 : (List.replicate 16 (0 : Int) ++ s).length = 32 := by rw [List.length_append, List.length_replicate]; omega
        have f1 := pmac_f _ b l1 B1 Hb (by omega)
        have f2 := pmac_f _ b l2 B2 Hb (by omega)
        have f3 := pmac_f _ b l3 B3 Hb (by omega)
        have f4 := pmac_f _ [] l1 B1 (fun x hx => by cases hx) (by decide)
        have hnb := NK_bd s (rd_byte Hs) 16
        have m1 := macP_eq B1 l1 Hb (clamp_bytes B1)
        have m2 := macP_eq B2 l2 Hb (clamp_bytes B2)
        have m3 := macP_eq B3 l3 Hb (clamp_bytes B3)
        have m4 := macP_eq B1 l1 (b := []) (fun x hx => by cases hx) (clamp_bytes B1)
        rw [clamp_left r (List.replicate 16 0) s hrl] at m2
        rw [List.drop_left' hrl] at m1 m2 m4
        obtain ⟨H, hH⟩ : ∃ H, H = Hn (NK (clampB (r ++ s)) 16) b ((b.length + 15) / 16) % P130 := ⟨_, rfl⟩
        rw [← hH] at m1 m2
        have hH0 : 0 ≤ H := by rw [hH]; unfold P130; omega
        have z0 : NK (List.replicate 16 0) 16 = 0 := by decide
        rw [z0, Int.add_zero] at m2
        have z1 : NK (clampB (List.replicate 16 0 ++ s)) 16 = 0 := by
          have : clampB (List.replicate 16 0 ++ s) = clampB (List.replicate 32 0) := clamp_left (List.replicate 16 0) s (List.replicate 16 0) rfl
          rw [this]
          decide
        have z2 : (List.replicate 16 (0 : Int) ++ s).drop 16 = s := List.drop_left' rfl
        rw [z1, z2, Hn_zero, show (0 : Int) % P130 + NK s 16 = NK s 16 by unfold P130; omega, dig_self Hs hsl] at m3
        have z3 : Hn (NK (clampB (r ++ s)) 16) [] (([] : List Int).length + 15 / 16) = 0 := rfl
        have m4 : macP (r ++ s) [] = s := by
          rw [m4]
          have z4 : ((([] : List Int).length + 15) / 16) = 0 := rfl
          rw [z4, Hn, show (0 : Int) % P130 + NK s 16 = NK s 16 by unfold P130; omega, dig_self Hs hsl]
        rw [m1] at f1
        rw [m2] at f2
        rw [m3] at f3
        rw [m4] at f4
        have hdl := dig_length H
        have hdb : Bytes (dig H) := fun x hx => by
          obtain ⟨i, hi, rfl⟩ := List.getElem_of_mem hx
          rw [← rd_get _ _ hi, rd_dig _ _ (by omega)]
          omega
        have hp := plus_ev (dig H) s hdb Hs hdl hsl
        have hpe : dig (NK (dig H) 16 + NK s 16) = dig (H + NK s 16) := by
          rw [NK_dig H hH0 16 (by omega), p16]
          obtain ⟨q, hq⟩ : ∃ q, q = H / 340282366920938463463374607431768211456 := ⟨_, rfl⟩
          have : H + NK s 16 = H % 340282366920938463463374607431768211456 + NK s 16 + 340282366920938463463374607431768211456 * q := by omega
          rw [this, dig_mod]
        rw [hpe] at hp
        have hlT := dig_length (H + NK s 16)
        refine Ev.step (f := fun k => casketlaw16_PolyParts.j1 k s true (dig (H + NK s 16)) (dig H) s s false) (fun k => ?_) ?_
        · simp only [casketlaw16_PolyParts.j0, Option.bind_some, List.nil_append, List.length_nil, f1, f2, f3, f4, List.length_replicate]
          rw [if_neg (by decide), if_pos (by omega), if_pos (by omega), if_pos (by omega), if_pos (by omega), if_pos (by decide), if_pos (by omega), if_pos (by omega), if_pos (by omega)]
          simp only [if_true, hlT, hdl]
          rfl
        · refine Ev.step (f := fun k => (casketlaw16_plus.f k (dig H) s).bind fun t484 => ((casketlaw16_same.f k (dig (H + NK s 16)) t484).bind fun t487 => (if t487 = true then ((casketlaw16_same.f k s s).bind fun t488 => (if t488 = true then ((casketlaw16_same.f k s s).bind fun t489 => (some t489)) else (some false))) else (some false)))) (fun k => ?_) ?_
          · simp only [casketlaw16_PolyParts.j1]
            rw [if_neg (by decide)]
            simp only [if_true]
          · refine Ev.bind hp ?_
            have s1 := same16_ev (dig (H + NK s 16)) (dig (H + NK s 16)) (by omega)
            have s2 := same16_ev s s (by omega)
            rw [decide_eq_true rfl] at s1 s2
            refine Ev.bind s1 ?_
            simp only [if_true]
            refine Ev.bind s2 ?_
            simp only [if_true]
            exact Ev.bind s2 (Ev.now _)
    · simp only [if_neg h2]
      exact long
  · simp only [if_neg h1]
    exact long
end Go.Proofs.Ytllaobhheokafaa.Pure
