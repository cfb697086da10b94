/- Bytes 0 come to the blocks themselves, one behind the other; each block has 64 bytes: the pure statement. -/
import Derived.Test.YtllaobhheokafaaDChachaNoughts
import Derived.Test.YtllaobhheokafaaFchacha
namespace Go.Proofs.Ytllaobhheokafaa.Pure
open Go.RowKit Go.Proofs.Ytllaobhheokafaa.Q Go.Proofs.Ytllaobhheokafaa.F Go.Proofs.YtllaobhheokafaaW.PrintWords Go.Proofs.YtllaobhheokafaaW.PrintLast Go.Proofs.YtllaobhheokafaaW.PrintMore
set_option linter.unusedVariables false

def blocksN (l0 : List Int) (a1 : Int) (l2 : List Int) : Nat → List Int
  | 0 => []
  | n + 1 => blocksN l0 a1 l2 n ++ blockW l0 ((a1 + n) % 4294967296) l2
theorem blocksN_length (l0 : List Int) (a1 : Int) (l2 : List Int) : ∀ n, (blocksN l0 a1 l2 n).length = 64 * n
  | 0 => rfl
  | n + 1 => by rw [blocksN, List.length_append, blocksN_length l0 a1 l2 n, blockW_length]; omega
theorem blocksN_rd (l0 : List Int) (a1 : Int) (l2 : List Int) : ∀ (n i : Nat), i < 64 * n → rd (blocksN l0 a1 l2 n) i = rd (blockW l0 ((a1 + (i / 64 : Nat)) % 4294967296) l2) (i % 64 : Nat)
  | 0, i, h => by omega
  | n + 1, i, h => by
    have hl := blocksN_length l0 a1 l2 n
    by_cases hi : i < 64 * n
    · rw [blocksN, rd_append_left _ _ _ (by omega), blocksN_rd l0 a1 l2 n i hi]
    · rw [blocksN, show i / 64 = n by omega]
      unfold rd
      rw [Int.toNat_natCast, Int.toNat_natCast, List.getD_eq_getElem?_getD, List.getElem?_append_right (by omega), hl, List.getD_eq_getElem?_getD, show i - 64 * n = i % 64 by omega]
theorem noughts_eq (l0 : List Int) (a1 : Int) (l2 : List Int) (n m : Nat) (hm : n ≤ 64 * m) : streamW l0 a1 l2 (List.replicate n 0) = (blocksN l0 a1 l2 m).take n := by
  have hl := blocksN_length l0 a1 l2 m
  apply list_ext
  · rw [streamW_length, List.length_take, List.length_replicate]; omega
  · intro i hi
    rw [streamW_length, List.length_replicate] at hi
    rw [streamW_rd _ _ _ _ _ (by rw [List.length_replicate]; exact hi)]
    have h1 : rd ((blocksN l0 a1 l2 m).take n) i = rd (blocksN l0 a1 l2 m) i := by
      simp [rd, List.getD_eq_getElem?_getD, hi]
    have h2 : rd (List.replicate n (0 : Int)) i = 0 := by
      simp [rd, List.getD_eq_getElem?_getD, hi]
    rw [h1, blocksN_rd _ _ _ _ _ (by omega)]
    unfold streamB
    rw [h2, xor_zero _ (bytes_rd (blockW_bytes _ _ _) _)]
theorem ChachaNoughts : casketlaw15_ChachaNoughts.Pure := by
  intro l0 a1 l2 a3 _ hl0 _ ha1 _ hl2 _ _
  have ha := wf_u32 ha1
  apply Ev.rounds
  unfold casketlaw15_ChachaNoughts.f
  simp only [awake15, Option.bind_some]
  have h255 := and255 a3
  obtain ⟨n, hn⟩ : ∃ n : Nat, Go.bits .and .i64 a3 255 = (n : Int) := ⟨(Go.bits .and .i64 a3 255).toNat, by omega⟩
  have hn2 : n ≤ 255 := by omega
  have q1 : 0 ≤ (n : Int) := by omega
  have q2 : n ≤ 281474976710656 := by omega
  simp only [hn, if_pos q1, Int.toNat_natCast, if_pos q2]
  by_cases h : l0.length = 32 ∧ l2.length = 12
  · simp only [stream_f _ l0 a1 l2 (List.replicate n 0) h.1 h.2 (by rw [List.length_replicate]; omega) ha, List.length_replicate]
    by_cases hl : ((n : Int) + 63) / 64 ≤ 4294967296 - a1
    · simp only [if_pos hl, Option.bind_some, if_true]
      have key : ∀ (d j : Nat), 5 - j = d → j ≤ 5 → 64 * j < n + 64 → Ev (fun k => casketlaw15_ChachaNoughts.l0 k l0 a1 l2 true (n : Int) (streamW l0 a1 l2 (List.replicate n 0)) (blocksN l0 a1 l2 j) (j : Int)) true := by
        intro d
        have hlen := fun j => blocksN_length l0 a1 l2 j
        have stop : ∀ j : Nat, n ≤ 64 * j → Ev (fun k => casketlaw15_ChachaNoughts.l0 k l0 a1 l2 true (n : Int) (streamW l0 a1 l2 (List.replicate n 0)) (blocksN l0 a1 l2 j) (j : Int)) true := fun j hj => by
          refine Ev.step (f := fun k => (casketlaw15_same.f k (streamW l0 a1 l2 (List.replicate n 0)) ((blocksN l0 a1 l2 j).take n)).bind fun t => some t) (fun k => ?_) ?_
          · simp only [casketlaw15_ChachaNoughts.l0]
            rw [if_neg (by rw [hlen]; omega), if_pos trivial, if_pos (by rw [streamW_length, List.length_replicate]), if_pos (by omega), if_pos (by rw [hlen]; omega)]
            rfl
          · have := same15_ev (streamW l0 a1 l2 (List.replicate n 0)) ((blocksN l0 a1 l2 j).take n) (by rw [streamW_length, List.length_replicate]; omega)
            rw [decide_eq_true (noughts_eq l0 a1 l2 n j hj)] at this
            exact Ev.bind this (Ev.now _)
        induction d with
        | zero =>
          intro j hd hj hjn
          exact stop j (by omega)
        | succ d ih =>
          intro j hd hj hjn
          by_cases he : 64 * j < n
          · refine Ev.step (f := fun k => casketlaw15_ChachaNoughts.l0 k l0 a1 l2 true (n : Int) (streamW l0 a1 l2 (List.replicate n 0)) (blocksN l0 a1 l2 (j + 1)) ((j + 1 : Nat) : Int)) (fun k => ?_) (ih (j + 1) (by omega) (by omega) (by omega))
            simp only [casketlaw15_ChachaNoughts.l0]
            rw [if_pos (by rw [hlen]; omega), block_f l0 _ l2 h.1 h.2]
            simp only [Option.bind_some, if_true, blockW_length]
            rw [if_pos (by omega), if_pos (by rw [hlen]; omega), show ((j : Int) + 1) % 4294967296 = ((j + 1 : Nat) : Int) by omega]
            rfl
          · exact stop j (by omega)
      exact key 5 0 (by omega) (by omega) (by omega)
    · simp only [if_neg hl, Option.bind_some]
      exact Ev.now _
  · simp only [stream_f_none _ l0 a1 l2 _ h, Option.bind_some]
    exact Ev.now _

end Go.Proofs.Ytllaobhheokafaa.Pure
