/- Plain facts on the slow reference of Poly1305: numbers as digits of one byte. No program in sight; each fact under the conditions that it states. -/
import Derived.Test.YtllaobhheokafaaFpo4
import Derived.Test.YtllaobhheokafaaDref16
namespace Go.Proofs.Ytllaobhheokafaa.F
open Go.RowKit Go.Proofs.Ytllaobhheokafaa.Q Go.Proofs.YtllaobhheokafaaW.PrintWords Go.Proofs.YtllaobhheokafaaW.PrintLast Go.Proofs.YtllaobhheokafaaW.PrintMore
set_option linter.unusedVariables false
set_option linter.unusedSimpArgs false
/-- The number that all bytes of a list stand for. -/
def val (l : List Int) : Int := NK l l.length
theorem NK_val (l : List Int) (n : Nat) (h : l.length ≤ n) : NK l n = val l := NK_far l n h
theorem rd_snoc (l : List Int) (x : Int) : rd (l ++ [x]) ((l.length : Nat) : Int) = x := by
  rw [rd_get _ _ (by simp), List.getElem_append_right (by omega)]
  simp
theorem val_snoc (l : List Int) (x : Int) : val (l ++ [x]) = val l + x * 256 ^ l.length := by
  rw [val, List.length_append]
  show NK (l ++ [x]) l.length + rd (l ++ [x]) ((l.length : Nat) : Int) * 256 ^ l.length = _
  rw [rd_snoc, NK_congr (l ++ [x]) l l.length (fun k hk => rd_append_left _ _ _ hk), val]
theorem val_bd {l : List Int} (hb : Bytes l) : 0 ≤ val l ∧ val l < 256 ^ l.length := NK_bd l (rd_byte hb) _
theorem Bytes.nil : Bytes [] := fun x hx => by cases hx
theorem Bytes.snoc {l : List Int} (h : Bytes l) {x : Int} (hx : 0 ≤ x ∧ x < 256) : Bytes (l ++ [x]) := Bytes.append h (fun y hy => by rw [List.mem_singleton] at hy; subst hy; exact hx)
theorem Bytes.set {l : List Int} (h : Bytes l) (i : Nat) {x : Int} (hx : 0 ≤ x ∧ x < 256) : Bytes (l.set i x) := fun y hy => by
  rcases List.mem_or_eq_of_mem_set hy with h1 | h1
  · exact h y h1
  · rw [h1]; exact hx
theorem Bytes.take {l : List Int} (h : Bytes l) (n : Nat) : Bytes (l.take n) := fun y hy => h y (List.mem_of_mem_take hy)
theorem Bytes.drop {l : List Int} (h : Bytes l) (n : Nat) : Bytes (l.drop n) := fun y hy => h y (List.mem_of_mem_drop hy)
theorem NK_set_lo (l : List Int) (i : Nat) (v : Int) : ∀ n, n ≤ i → NK (l.set i v) n = NK l n := fun n h => NK_congr _ _ n (fun k hk => rd_set_far _ _ _ _ (by omega))
theorem NK_set_hi (l : List Int) (i : Nat) (h : i < l.length) (v : Int) : ∀ d, NK (l.set i v) (i + 1 + d) = NK l (i + 1 + d) + (v - rd l (i : Nat)) * 256 ^ i
  | 0 => by
    show NK (l.set i v) i + rd (l.set i v) (i : Nat) * 256 ^ i = NK l i + rd l (i : Nat) * 256 ^ i + _
    rw [NK_set_lo l i v i (Nat.le_refl _), rd_set _ _ _ h]
    grind
  | d + 1 => by
    show NK (l.set i v) (i + 1 + d) + rd (l.set i v) ((i + 1 + d : Nat) : Int) * 256 ^ (i + 1 + d) = NK l (i + 1 + d) + rd l ((i + 1 + d : Nat) : Int) * 256 ^ (i + 1 + d) + _
    rw [NK_set_hi l i h v d, rd_set_far _ _ _ _ (by omega)]
    omega
theorem val_set (l : List Int) (i : Nat) (h : i < l.length) (v : Int) : val (l.set i v) = val l + (v - rd l (i : Nat)) * 256 ^ i := by
  rw [val, val, List.length_set]
  obtain ⟨d, hd⟩ : ∃ d, l.length = i + 1 + d := ⟨l.length - (i + 1), by omega⟩
  rw [hd, NK_set_hi l i h v d]
theorem rd_take (l : List Int) (n k : Nat) (h : k < n) : rd (l.take n) (k : Nat) = rd l (k : Nat) := by
  simp [rd, List.getD_eq_getElem?_getD, List.getElem?_take_of_lt h]
theorem pow_pos' (n : Nat) : (0 : Int) < 256 ^ n := Int.pow_pos (by decide)
theorem pow_mono {m n : Nat} (h : m ≤ n) : (256 : Int) ^ m ≤ 256 ^ n := by
  obtain ⟨d, rfl⟩ : ∃ d, n = m + d := ⟨n - m, by omega⟩
  rw [Int.pow_add]
  have h1 := pow_pos' d
  have h2 := pow_pos' m
  have := Int.mul_le_mul_of_nonneg_left (show (1 : Int) ≤ 256 ^ d by omega) (Int.le_of_lt h2)
  rw [Int.mul_one] at this
  exact this
theorem mul_lt' {x y X Y : Int} (hx : 0 ≤ x) (hX : x < X) (hy : 0 ≤ y) (hY : y < Y) : x * y < X * Y := by
  have h1 := Int.mul_le_mul_of_nonneg_left (Int.le_of_lt hY) hx
  have h2 := Int.mul_lt_mul_of_pos_right (c := Y) hX (by omega)
  omega
theorem number_ev (b : List Int) (hb : Bytes b) (hl : b.length ≤ 100000) : Ev (fun k => casketref16_number.f k b) b := by
  unfold casketref16_number.f
  have key : ∀ (d i : Nat), b.length - i = d → i ≤ b.length → Ev (fun k => casketref16_number.l0 k b (b.take i) (i : Nat)) b := by
    intro d
    induction d with
    | zero =>
      intro i hd hi
      obtain rfl : i = b.length := by omega
      refine Ev.step (f := fun _ => some b) (fun k => ?_) (Ev.now _)
      simp only [casketref16_number.l0]
      rw [if_neg (by omega), List.take_length]
    | succ d ih =>
      intro i hd hi
      refine Ev.step (f := fun k => casketref16_number.l0 k b (b.take (i + 1)) ((i + 1 : Nat) : Int)) (fun k => ?_) (ih (i + 1) (by omega) (by omega))
      simp only [casketref16_number.l0]
      have hx := rd_byte hb i
      rw [if_pos (by omega), if_pos (by omega), if_pos (by rw [List.length_take]; omega), w64 (n := rd b (i : Nat)) (by omega) (by omega), w64 (by omega) (by omega)]
      rw [List.take_succ_eq_append_getElem (by omega), rd_get b i (by omega)]
      rfl
  exact key b.length 0 rfl (by omega)
end Go.Proofs.Ytllaobhheokafaa.F
