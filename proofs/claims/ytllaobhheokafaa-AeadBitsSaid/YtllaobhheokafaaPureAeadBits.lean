/- What differs in two texts differs in what they are sealed to: the pure statement. -/
import Derived.Test.YtllaobhheokafaaDAeadBits
import Derived.Test.YtllaobhheokafaaFaea2
namespace Go.Proofs.Ytllaobhheokafaa.Pure
open Go.RowKit Go.Proofs.Ytllaobhheokafaa.Q Go.Proofs.Ytllaobhheokafaa.F Go.Proofs.YtllaobhheokafaaW.PrintWords Go.Proofs.YtllaobhheokafaaW.PrintLast Go.Proofs.YtllaobhheokafaaW.PrintMore
set_option linter.unusedVariables false
set_option linter.unusedSimpArgs false
theorem aead_bits_loop (a b x y : List Int) (hx : a.length ≤ x.length) (hy : b.length ≤ y.length) (hla : a.length ≤ 1000) (hlb : b.length ≤ 1000)
    (hd : ∀ i : Nat, i < a.length → i < b.length → Go.bits .xor .u8 (rd x i) (rd y i) = Go.bits .xor .u8 (rd a i) (rd b i)) :
    Ev (fun k => casketlaw17_AeadBits.l0 k a b true x y 0) true := by
  have key : ∀ (d i : Nat), a.length - i = d → i ≤ a.length → Ev (fun k => casketlaw17_AeadBits.l0 k a b true x y (i : Int)) true := by
    intro d
    have stop : ∀ i : Int, Ev (fun k => casketlaw17_AeadBits.j4 k a b true x y i false) true := fun i => by
      refine Ev.step (f := fun _ => some true) (fun k => ?_) (Ev.now _)
      simp only [casketlaw17_AeadBits.j4, if_neg Bool.false_ne_true]
    induction d with
    | zero =>
      intro i hd' hi
      refine Ev.step (f := fun k => casketlaw17_AeadBits.j4 k a b true x y (i : Int) false) (fun k => ?_) (stop i)
      simp only [casketlaw17_AeadBits.l0]; rw [if_neg (by omega)]
    | succ d ih =>
      intro i hd' hi
      by_cases hb : i < b.length
      · refine Ev.step (f := fun k => casketlaw17_AeadBits.j4 k a b true x y (i : Int) true) (fun k => ?_) ?_
        · simp only [casketlaw17_AeadBits.l0]
          rw [if_pos (by omega), decide_eq_true (by omega : (i : Int) < (b.length : Int))]
        · refine Ev.step (f := fun k => casketlaw17_AeadBits.l0 k a b true x y ((i + 1 : Nat) : Int)) (fun k => ?_) (ih (i + 1) (by omega) (by omega))
          simp only [casketlaw17_AeadBits.j4, if_true]
          rw [if_pos (by omega), if_pos (by omega), if_pos (by omega), if_pos (by omega), if_pos (by omega), if_pos (hd i (by omega) hb), w64 (by omega) (by omega)]
          rfl
      · refine Ev.step (f := fun k => casketlaw17_AeadBits.j4 k a b true x y (i : Int) false) (fun k => ?_) (stop i)
        simp only [casketlaw17_AeadBits.l0]
        rw [if_pos (by omega), decide_eq_false (by omega : ¬(i : Int) < (b.length : Int))]
  exact key a.length 0 (by omega) (by omega)
theorem AeadBits : casketlaw17_AeadBits.Pure := by
  intro key nonce ad a b _ _ hk _ _ hn _ _ had _ _ ha _ _ hb
  apply Ev.rounds
  unfold casketlaw17_AeadBits.f
  refine Ev.bind awake17 ?_
  have long : Ev (fun k => casketlaw17_AeadBits.j0 k key nonce ad a b true true) true := Ev.step (f := fun _ => some true) (fun k => by simp only [casketlaw17_AeadBits.j0]; rfl) (Ev.now _)
  by_cases h1 : (ad.length : Int) > 300
  · simp only [if_pos h1]
    exact long
  simp only [if_neg h1]
  by_cases h2 : (a.length : Int) > 600
  · simp only [if_pos h2]
    exact long
  simp only [if_neg h2]
  by_cases h3 : (b.length : Int) > 600
  · simp only [decide_eq_true h3]
    exact long
  simp only [decide_eq_false h3]
  have Had := bytes_of had
  have Ha := bytes_of ha
  have Hb := bytes_of hb
  by_cases h : key.length = 32 ∧ nonce.length = 12
  · have hla := sealW_length key nonce ad a
    have hlb := sealW_length key nonce ad b
    refine Ev.step (f := fun k => casketlaw17_AeadBits.j1 k a b true (sealW key nonce ad a) 0 (sealW key nonce ad b) 0 false) (fun k => ?_) ?_
    · simp only [casketlaw17_AeadBits.j0]
      rw [if_neg (by decide), seal_f k key nonce ad a h.1 h.2 (by omega) (by omega) Had, seal_f k key nonce ad b h.1 h.2 (by omega) (by omega) Had]
      simp only [Option.bind_some, if_true]
      rfl
    refine Ev.step (f := fun k => casketlaw17_AeadBits.j2 k a b true (sealW key nonce ad a) (sealW key nonce ad b) false) (fun k => ?_) ?_
    · simp only [casketlaw17_AeadBits.j1]
      have e2 : (((sealW key nonce ad b).length : Int) != (wrap64 ((b.length : Int) + 16))) = false := by
        rw [bne_eq_false_iff_eq, hlb, w64 (by omega) (by omega)]
        omega
      rw [if_neg (by decide), if_pos (by rw [hla, w64 (by omega) (by omega)]; omega), e2]
    refine Ev.step (f := fun k => casketlaw17_AeadBits.l0 k a b true (sealW key nonce ad a) (sealW key nonce ad b) 0) (fun k => ?_) (aead_bits_loop a b _ _ (by omega) (by omega) (by omega) (by omega) ?_)
    · simp only [casketlaw17_AeadBits.j2]
      rw [if_neg (by decide)]
    · intro i h1 h2
      have hsa := streamW_length key 1 nonce a
      have hsb := streamW_length key 1 nonce b
      rw [sealW, sealW, rd_append_left _ _ _ (by omega), rd_append_left _ _ _ (by omega), streamW_rd _ _ _ _ _ h1, streamW_rd _ _ _ _ _ h2]
      unfold streamB
      exact xor_diff _ _ _ (bytes_rd Ha _) (bytes_rd Hb _) (bytes_rd (blockW_bytes _ _ _) _)
  · refine Ev.step (f := fun k => casketlaw17_AeadBits.j1 k a b true [] 1 [] 1 true) (fun k => ?_) ?_
    · simp only [casketlaw17_AeadBits.j0]
      rw [if_neg (by decide), seal_f_none k key nonce ad a h, seal_f_none k key nonce ad b h]
      simp only [Option.bind_some]
      rw [if_neg (by decide)]
    · refine Ev.step (f := fun _ => some true) (fun k => ?_) (Ev.now _)
      simp only [casketlaw17_AeadBits.j1, if_true]
      rfl
end Go.Proofs.Ytllaobhheokafaa.Pure
