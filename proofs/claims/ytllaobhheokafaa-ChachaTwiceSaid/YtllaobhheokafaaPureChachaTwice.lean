/- There and back the same key makes bytes what they were; what differs in two texts differs in what they come to: the pure statement. -/
import Derived.Test.YtllaobhheokafaaDChachaTwice
import Derived.Test.YtllaobhheokafaaFchacha
namespace Go.Proofs.Ytllaobhheokafaa.Pure
open Go.RowKit Go.Proofs.Ytllaobhheokafaa.Q Go.Proofs.Ytllaobhheokafaa.F Go.Proofs.YtllaobhheokafaaW.PrintWords Go.Proofs.YtllaobhheokafaaW.PrintLast Go.Proofs.YtllaobhheokafaaW.PrintMore
set_option linter.unusedVariables false

theorem twice_loop (a b x y : List Int) (hx : x.length = a.length) (hy : y.length = b.length) (hla : a.length ≤ 1000) (hlb : b.length ≤ 1000)
    (hd : ∀ i : Nat, i < a.length → i < b.length → Go.bits .xor .u8 (rd x i) (rd y i) = Go.bits .xor .u8 (rd a i) (rd b i)) :
    Ev (fun k => casketlaw15_ChachaTwice.l0 k a b true x y 0) true := by
  have key : ∀ (d i : Nat), a.length - i = d → i ≤ a.length → Ev (fun k => casketlaw15_ChachaTwice.l0 k a b true x y (i : Int)) true := by
    intro d
    have stop : ∀ i : Int, Ev (fun k => casketlaw15_ChachaTwice.j3 k a b true x y i false) true := fun i => by
      refine Ev.step (f := fun _ => some true) (fun k => ?_) (Ev.now _)
      simp only [casketlaw15_ChachaTwice.j3, if_neg Bool.false_ne_true, if_true]
      rw [if_pos (by omega)]
      have : ((y.length : Int) == (b.length : Int)) = true := by rw [beq_iff_eq]; omega
      rw [this]
    induction d with
    | zero =>
      intro i hd' hi
      refine Ev.step (f := fun k => casketlaw15_ChachaTwice.j3 k a b true x y (i : Int) false) (fun k => ?_) (stop i)
      simp only [casketlaw15_ChachaTwice.l0]; rw [if_neg (by omega)]
    | succ d ih =>
      intro i hd' hi
      by_cases hb : i < b.length
      · refine Ev.step (f := fun k => casketlaw15_ChachaTwice.j3 k a b true x y (i : Int) true) (fun k => ?_) ?_
        · simp only [casketlaw15_ChachaTwice.l0]
          rw [if_pos (by omega), decide_eq_true (by omega : (i : Int) < (b.length : Int))]
        · refine Ev.step (f := fun k => casketlaw15_ChachaTwice.l0 k a b true x y ((i + 1 : Nat) : Int)) (fun k => ?_) (ih (i + 1) (by omega) (by omega))
          simp only [casketlaw15_ChachaTwice.j3, if_true]
          rw [if_neg (by omega), if_neg (by omega), if_pos (by omega), if_pos (by omega), if_pos (by omega), if_pos (by omega), if_pos (by omega), if_pos (hd i (by omega) hb), w64 (by omega) (by omega)]
          rfl
      · refine Ev.step (f := fun k => casketlaw15_ChachaTwice.j3 k a b true x y (i : Int) false) (fun k => ?_) (stop i)
        simp only [casketlaw15_ChachaTwice.l0]
        rw [if_pos (by omega), decide_eq_false (by omega : ¬(i : Int) < (b.length : Int))]
  exact key a.length 0 (by omega) (by omega)
theorem ChachaTwice : casketlaw15_ChachaTwice.Pure := by
  intro l0 a1 l2 b c _ hl0 _ ha1 _ hl2 _ _ hlb hb _ hlc hc
  have ha := wf_u32 ha1
  have hbb := bytes_of hb
  have hcb := bytes_of hc
  apply Ev.rounds
  unfold casketlaw15_ChachaTwice.f
  simp only [awake15, Option.bind_some]
  have stop : Ev (fun k => casketlaw15_ChachaTwice.j0 k l0 a1 l2 b c true true) true := Ev.step (f := fun _ => some true) (fun k => by simp only [casketlaw15_ChachaTwice.j0, if_true]) (Ev.now _)
  by_cases hbig : (b.length : Int) > 1000
  · simp only [if_pos hbig]; exact stop
  simp only [if_neg hbig]
  by_cases hbig2 : (c.length : Int) > 1000
  · simp only [decide_eq_true hbig2]; exact stop
  simp only [decide_eq_false hbig2]
  by_cases h : l0.length = 32 ∧ l2.length = 12
  · have hlx := streamW_length l0 a1 l2 b
    have hly := streamW_length l0 a1 l2 c
    by_cases hl : ((b.length : Int) + 63) / 64 ≤ 4294967296 - a1
    · refine Ev.step (f := fun k => (casketlaw15_same.f k b b).bind fun t => casketlaw15_ChachaTwice.j1 k l0 a1 l2 b c true (streamW l0 a1 l2 b) (!t)) (fun k => ?_) ?_
      · simp only [casketlaw15_ChachaTwice.j0, if_neg Bool.false_ne_true]
        rw [stream_f _ l0 a1 l2 b h.1 h.2 (by omega) ha, if_pos hl]
        simp only [Option.bind_some, if_true]
        rw [stream_f _ l0 a1 l2 (streamW l0 a1 l2 b) h.1 h.2 (by omega) ha, hlx, if_pos hl]
        simp only [Option.bind_some, if_true, stream_back l0 a1 l2 b hbb]
      · have := same15_ev b b (by omega)
        simp only [decide_true] at this
        refine Ev.bind this ?_
        simp only [Bool.not_true]
        by_cases hl2 : ((c.length : Int) + 63) / 64 ≤ 4294967296 - a1
        · refine Ev.step (f := fun k => casketlaw15_ChachaTwice.l0 k b c true (streamW l0 a1 l2 b) (streamW l0 a1 l2 c) 0) (fun k => ?_) (twice_loop b c _ _ hlx hly (by omega) (by omega) ?_)
          · simp only [casketlaw15_ChachaTwice.j1, if_neg Bool.false_ne_true]
            rw [stream_f _ l0 a1 l2 c h.1 h.2 (by omega) ha, if_pos hl2]
            simp only [Option.bind_some, if_true]
          · intro i h1 h2
            rw [streamW_rd _ _ _ _ _ h1, streamW_rd _ _ _ _ _ h2]
            unfold streamB
            exact xor_diff _ _ _ (bytes_rd hbb _) (bytes_rd hcb _) (bytes_rd (blockW_bytes _ _ _) _)
        · refine Ev.step (f := fun _ => some true) (fun k => ?_) (Ev.now _)
          simp only [casketlaw15_ChachaTwice.j1, if_neg Bool.false_ne_true]
          rw [stream_f _ l0 a1 l2 c h.1 h.2 (by omega) ha, if_neg hl2]
          rfl
    · refine Ev.step (f := fun _ => some true) (fun k => ?_) (Ev.now _)
      simp only [casketlaw15_ChachaTwice.j0, if_neg Bool.false_ne_true]
      rw [stream_f _ l0 a1 l2 b h.1 h.2 (by omega) ha, if_neg hl]
      rfl
  · refine Ev.step (f := fun _ => some true) (fun k => ?_) (Ev.now _)
    simp only [casketlaw15_ChachaTwice.j0, if_neg Bool.false_ne_true]
    rw [stream_f_none _ l0 a1 l2 b h]
    rfl

end Go.Proofs.Ytllaobhheokafaa.Pure
