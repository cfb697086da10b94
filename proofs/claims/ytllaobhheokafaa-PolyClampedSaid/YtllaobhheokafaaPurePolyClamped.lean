/- The bits of r that are left out say nothing: the pure statement. -/
import Derived.Test.YtllaobhheokafaaDPolyClamped
import Derived.Test.YtllaobhheokafaaFpol16
namespace Go.Proofs.Ytllaobhheokafaa.Pure
open Go.RowKit Go.Proofs.Ytllaobhheokafaa.Q Go.Proofs.Ytllaobhheokafaa.F Go.Proofs.YtllaobhheokafaaW.PrintWords Go.Proofs.YtllaobhheokafaaW.PrintLast Go.Proofs.YtllaobhheokafaaW.PrintMore
set_option linter.unusedVariables false
set_option linter.unusedSimpArgs false
theorem and_xor_and (x b m n : Int) (h : (BitVec.ofInt 8 m &&& BitVec.ofInt 8 n) = 0#8) : Go.bits .and .u8 (Go.bits .xor .u8 x (Go.bits .and .u8 b m)) n = Go.bits .and .u8 x n := by
  have key : ∀ y : BitVec 8, BitVec.ofInt 8 (IntKind.u8.wrap (y.toNat : Nat)) = y := fun y => by
    rw [IntKind.wrap_u8]
    apply BitVec.eq_of_toNat_eq
    rw [BitVec.toNat_ofInt]
    have := y.isLt
    omega
  have e1 : ∀ a c : Int, BitVec.ofInt 8 (Go.bits .and .u8 a c) = BitVec.ofInt 8 a &&& BitVec.ofInt 8 c := fun a c => key _
  have e2 : ∀ a c : Int, BitVec.ofInt 8 (Go.bits .xor .u8 a c) = BitVec.ofInt 8 a ^^^ BitVec.ofInt 8 c := fun a c => key _
  show IntKind.u8.wrap ((BitVec.ofInt 8 (Go.bits .xor .u8 x (Go.bits .and .u8 b m)) &&& BitVec.ofInt 8 n).toNat : Nat) = IntKind.u8.wrap ((BitVec.ofInt 8 x &&& BitVec.ofInt 8 n).toNat : Nat)
  rw [e2, e1]
  congr 3
  have h3 : (BitVec.ofInt 8 b &&& BitVec.ofInt 8 m) &&& BitVec.ofInt 8 n = 0#8 := by rw [BitVec.and_assoc, h, BitVec.and_zero]
  have fin : ∀ y z n : BitVec 8, z &&& n = 0#8 → (y ^^^ z) &&& n = y &&& n := fun y z n hz => by
    apply BitVec.eq_of_getLsbD_eq
    intro i hi
    have h4 := congrArg (fun v => v.getLsbD i) hz
    simp only [BitVec.getLsbD_and, BitVec.getLsbD_xor, BitVec.getLsbD_zero] at h4 ⊢
    revert h4
    cases y.getLsbD i <;> cases z.getLsbD i <;> cases n.getLsbD i <;> decide
  exact fin _ _ _ h3
theorem xor_and240 (x b : Int) : Go.bits .and .u8 (Go.bits .xor .u8 x (Go.bits .and .u8 b 240)) 15 = Go.bits .and .u8 x 15 := and_xor_and x b 240 15 (by decide)
theorem xor_and3 (x b : Int) : Go.bits .and .u8 (Go.bits .xor .u8 x (Go.bits .and .u8 b 3)) 252 = Go.bits .and .u8 x 252 := and_xor_and x b 3 252 (by decide)
theorem sixteen {l : List Int} (h : (l.length : Int) = 16) : ∃ x0 x1 x2 x3 x4 x5 x6 x7 x8 x9 x10 x11 x12 x13 x14 x15, l = [x0, x1, x2, x3, x4, x5, x6, x7, x8, x9, x10, x11, x12, x13, x14, x15] := by
  rcases l with _ | ⟨x0, l⟩
  · exact absurd h (by simp only [List.length_cons, List.length_nil]; omega)
  rcases l with _ | ⟨x1, l⟩
  · exact absurd h (by simp only [List.length_cons, List.length_nil]; omega)
  rcases l with _ | ⟨x2, l⟩
  · exact absurd h (by simp only [List.length_cons, List.length_nil]; omega)
  rcases l with _ | ⟨x3, l⟩
  · exact absurd h (by simp only [List.length_cons, List.length_nil]; omega)
  rcases l with _ | ⟨x4, l⟩
  · exact absurd h (by simp only [List.length_cons, List.length_nil]; omega)
  rcases l with _ | ⟨x5, l⟩
  · exact absurd h (by simp only [List.length_cons, List.length_nil]; omega)
  rcases l with _ | ⟨x6, l⟩
  · exact absurd h (by simp only [List.length_cons, List.length_nil]; omega)
  rcases l with _ | ⟨x7, l⟩
  · exact absurd h (by simp only [List.length_cons, List.length_nil]; omega)
  rcases l with _ | ⟨x8, l⟩
  · exact absurd h (by simp only [List.length_cons, List.length_nil]; omega)
  rcases l with _ | ⟨x9, l⟩
  · exact absurd h (by simp only [List.length_cons, List.length_nil]; omega)
  rcases l with _ | ⟨x10, l⟩
  · exact absurd h (by simp only [List.length_cons, List.length_nil]; omega)
  rcases l with _ | ⟨x11, l⟩
  · exact absurd h (by simp only [List.length_cons, List.length_nil]; omega)
  rcases l with _ | ⟨x12, l⟩
  · exact absurd h (by simp only [List.length_cons, List.length_nil]; omega)
  rcases l with _ | ⟨x13, l⟩
  · exact absurd h (by simp only [List.length_cons, List.length_nil]; omega)
  rcases l with _ | ⟨x14, l⟩
  · exact absurd h (by simp only [List.length_cons, List.length_nil]; omega)
  rcases l with _ | ⟨x15, l⟩
  · exact absurd h (by simp only [List.length_cons, List.length_nil]; omega)
  rcases l with _ | ⟨y, l⟩
  · exact ⟨x0, x1, x2, x3, x4, x5, x6, x7, x8, x9, x10, x11, x12, x13, x14, x15, rfl⟩
  · exact absurd h (by simp only [List.length_cons]; omega)
theorem oth_bytes (x0 x1 x2 x3 x4 x5 x6 x7 x8 x9 x10 x11 x12 x13 x14 x15 b : Int) (h : Bytes [x0, x1, x2, x3, x4, x5, x6, x7, x8, x9, x10, x11, x12, x13, x14, x15]) : Bytes [x0, x1, x2, Go.bits .xor .u8 x3 (Go.bits .and .u8 b 240), Go.bits .xor .u8 x4 (Go.bits .and .u8 b 3), x5, x6, Go.bits .xor .u8 x7 (Go.bits .and .u8 b 240), Go.bits .xor .u8 x8 (Go.bits .and .u8 b 3), x9, x10, Go.bits .xor .u8 x11 (Go.bits .and .u8 b 240), Go.bits .xor .u8 x12 (Go.bits .and .u8 b 3), x13, x14, Go.bits .xor .u8 x15 (Go.bits .and .u8 b 240)] := fun y hy => by
  have hx := xor_range
  simp only [List.mem_cons, List.not_mem_nil, or_false] at hy
  simp only [Bytes, List.mem_cons, List.not_mem_nil, or_false] at h
  rcases hy with rfl | rfl | rfl | rfl | rfl | rfl | rfl | rfl | rfl | rfl | rfl | rfl | rfl | rfl | rfl | rfl
  · exact h _ (by simp)
  · exact h _ (by simp)
  · exact h _ (by simp)
  · exact xor_range _ _
  · exact xor_range _ _
  · exact h _ (by simp)
  · exact h _ (by simp)
  · exact xor_range _ _
  · exact xor_range _ _
  · exact h _ (by simp)
  · exact h _ (by simp)
  · exact xor_range _ _
  · exact xor_range _ _
  · exact h _ (by simp)
  · exact h _ (by simp)
  · exact xor_range _ _
theorem PolyClamped : casketlaw16_PolyClamped.Pure := by
  intro r s m b _ _ hr _ _ hs _ _ hm hb
  apply Ev.rounds
  unfold casketlaw16_PolyClamped.f
  rw [awake16]
  simp only [Option.bind_some]
  have long : Ev (fun k => casketlaw16_PolyClamped.j0 k r s m b true true) true := Ev.step (f := fun _ => some true) (fun k => by simp only [casketlaw16_PolyClamped.j0]; rfl) (Ev.now _)
  by_cases h1 : (r.length : Int) = 16
  · simp only [if_pos h1]
    by_cases h2 : (s.length : Int) = 16
    · simp only [if_pos h2]
      by_cases h3 : (m.length : Int) > 600
      · simp only [decide_eq_true h3]
        exact long
      · simp only [decide_eq_false h3]
        have Hr := bytes_of hr
        have Hs := bytes_of hs
        have Hm := bytes_of hm
        obtain ⟨x0, x1, x2, x3, x4, x5, x6, x7, x8, x9, x10, x11, x12, x13, x14, x15, rfl⟩ := sixteen h1
        have hp : macP ([x0, x1, x2, x3, x4, x5, x6, x7, x8, x9, x10, x11, x12, x13, x14, x15] ++ s) m = macP ([x0, x1, x2, Go.bits .xor .u8 x3 (Go.bits .and .u8 b 240), Go.bits .xor .u8 x4 (Go.bits .and .u8 b 3), x5, x6, Go.bits .xor .u8 x7 (Go.bits .and .u8 b 240), Go.bits .xor .u8 x8 (Go.bits .and .u8 b 3), x9, x10, Go.bits .xor .u8 x11 (Go.bits .and .u8 b 240), Go.bits .xor .u8 x12 (Go.bits .and .u8 b 3), x13, x14, Go.bits .xor .u8 x15 (Go.bits .and .u8 b 240)] ++ s) m := by
          have e1 : clampB ([x0, x1, x2, x3, x4, x5, x6, x7, x8, x9, x10, x11, x12, x13, x14, x15] ++ s) = clampB ([x0, x1, x2, Go.bits .xor .u8 x3 (Go.bits .and .u8 b 240), Go.bits .xor .u8 x4 (Go.bits .and .u8 b 3), x5, x6, Go.bits .xor .u8 x7 (Go.bits .and .u8 b 240), Go.bits .xor .u8 x8 (Go.bits .and .u8 b 3), x9, x10, Go.bits .xor .u8 x11 (Go.bits .and .u8 b 240), Go.bits .xor .u8 x12 (Go.bits .and .u8 b 3), x13, x14, Go.bits .xor .u8 x15 (Go.bits .and .u8 b 240)] ++ s) := by
            have t1 : ([x0, x1, x2, x3, x4, x5, x6, x7, x8, x9, x10, x11, x12, x13, x14, x15] ++ s).take 16 = [x0, x1, x2, x3, x4, x5, x6, x7, x8, x9, x10, x11, x12, x13, x14, x15] := rfl
            have t2 : ([x0, x1, x2, Go.bits .xor .u8 x3 (Go.bits .and .u8 b 240), Go.bits .xor .u8 x4 (Go.bits .and .u8 b 3), x5, x6, Go.bits .xor .u8 x7 (Go.bits .and .u8 b 240), Go.bits .xor .u8 x8 (Go.bits .and .u8 b 3), x9, x10, Go.bits .xor .u8 x11 (Go.bits .and .u8 b 240), Go.bits .xor .u8 x12 (Go.bits .and .u8 b 3), x13, x14, Go.bits .xor .u8 x15 (Go.bits .and .u8 b 240)] ++ s).take 16 = [x0, x1, x2, Go.bits .xor .u8 x3 (Go.bits .and .u8 b 240), Go.bits .xor .u8 x4 (Go.bits .and .u8 b 3), x5, x6, Go.bits .xor .u8 x7 (Go.bits .and .u8 b 240), Go.bits .xor .u8 x8 (Go.bits .and .u8 b 3), x9, x10, Go.bits .xor .u8 x11 (Go.bits .and .u8 b 240), Go.bits .xor .u8 x12 (Go.bits .and .u8 b 3), x13, x14, Go.bits .xor .u8 x15 (Go.bits .and .u8 b 240)] := rfl
            rw [clampB, clampB, t1, t2]
            have a1 : andN (andN [x0, x1, x2, Go.bits .xor .u8 x3 (Go.bits .and .u8 b 240), Go.bits .xor .u8 x4 (Go.bits .and .u8 b 3), x5, x6, Go.bits .xor .u8 x7 (Go.bits .and .u8 b 240), Go.bits .xor .u8 x8 (Go.bits .and .u8 b 3), x9, x10, Go.bits .xor .u8 x11 (Go.bits .and .u8 b 240), Go.bits .xor .u8 x12 (Go.bits .and .u8 b 3), x13, x14, Go.bits .xor .u8 x15 (Go.bits .and .u8 b 240)] 3 15 4) 4 252 3 = [x0, x1, x2, Go.bits .and .u8 (Go.bits .xor .u8 x3 (Go.bits .and .u8 b 240)) 15, Go.bits .and .u8 (Go.bits .xor .u8 x4 (Go.bits .and .u8 b 3)) 252, x5, x6, Go.bits .and .u8 (Go.bits .xor .u8 x7 (Go.bits .and .u8 b 240)) 15, Go.bits .and .u8 (Go.bits .xor .u8 x8 (Go.bits .and .u8 b 3)) 252, x9, x10, Go.bits .and .u8 (Go.bits .xor .u8 x11 (Go.bits .and .u8 b 240)) 15, Go.bits .and .u8 (Go.bits .xor .u8 x12 (Go.bits .and .u8 b 3)) 252, x13, x14, Go.bits .and .u8 (Go.bits .xor .u8 x15 (Go.bits .and .u8 b 240)) 15] := rfl
            have a2 : andN (andN [x0, x1, x2, x3, x4, x5, x6, x7, x8, x9, x10, x11, x12, x13, x14, x15] 3 15 4) 4 252 3 = [x0, x1, x2, Go.bits .and .u8 (x3) 15, Go.bits .and .u8 (x4) 252, x5, x6, Go.bits .and .u8 (x7) 15, Go.bits .and .u8 (x8) 252, x9, x10, Go.bits .and .u8 (x11) 15, Go.bits .and .u8 (x12) 252, x13, x14, Go.bits .and .u8 (x15) 15] := rfl
            rw [a1, a2]
            simp only [xor_and240, xor_and3]
          have e2 : ([x0, x1, x2, x3, x4, x5, x6, x7, x8, x9, x10, x11, x12, x13, x14, x15] ++ s).drop 16 = ([x0, x1, x2, Go.bits .xor .u8 x3 (Go.bits .and .u8 b 240), Go.bits .xor .u8 x4 (Go.bits .and .u8 b 3), x5, x6, Go.bits .xor .u8 x7 (Go.bits .and .u8 b 240), Go.bits .xor .u8 x8 (Go.bits .and .u8 b 3), x9, x10, Go.bits .xor .u8 x11 (Go.bits .and .u8 b 240), Go.bits .xor .u8 x12 (Go.bits .and .u8 b 3), x13, x14, Go.bits .xor .u8 x15 (Go.bits .and .u8 b 240)] ++ s).drop 16 := rfl
          rw [macP, macP, e1, e2]
        refine Ev.step (f := fun k => casketlaw16_PolyClamped.l0 k [x0, x1, x2, x3, x4, x5, x6, x7, x8, x9, x10, x11, x12, x13, x14, x15] s m b true [x0, x1, x2, x3, x4, x5, x6, x7, x8, x9, x10, x11, x12, x13, x14, x15] 3) (fun k => ?_) ?_
        · simp only [casketlaw16_PolyClamped.j0, Option.bind_some, List.nil_append, List.length_nil]
          rw [if_neg (by simp), if_pos (by simp)]
        refine Ev.step (f := fun k => casketlaw16_PolyClamped.l0 k [x0, x1, x2, x3, x4, x5, x6, x7, x8, x9, x10, x11, x12, x13, x14, x15] s m b true [x0, x1, x2, Go.bits .xor .u8 x3 (Go.bits .and .u8 b 240), x4, x5, x6, x7, x8, x9, x10, x11, x12, x13, x14, x15] (7)) (fun k => ?_) ?_
        · simp only [casketlaw16_PolyClamped.l0]
          rw [if_pos (by decide), if_pos (by decide), if_pos (by simp), w64 (by decide) (by decide)]
          rfl
        refine Ev.step (f := fun k => casketlaw16_PolyClamped.l0 k [x0, x1, x2, x3, x4, x5, x6, x7, x8, x9, x10, x11, x12, x13, x14, x15] s m b true [x0, x1, x2, Go.bits .xor .u8 x3 (Go.bits .and .u8 b 240), x4, x5, x6, Go.bits .xor .u8 x7 (Go.bits .and .u8 b 240), x8, x9, x10, x11, x12, x13, x14, x15] (11)) (fun k => ?_) ?_
        · simp only [casketlaw16_PolyClamped.l0]
          rw [if_pos (by decide), if_pos (by decide), if_pos (by simp), w64 (by decide) (by decide)]
          rfl
        refine Ev.step (f := fun k => casketlaw16_PolyClamped.l0 k [x0, x1, x2, x3, x4, x5, x6, x7, x8, x9, x10, x11, x12, x13, x14, x15] s m b true [x0, x1, x2, Go.bits .xor .u8 x3 (Go.bits .and .u8 b 240), x4, x5, x6, Go.bits .xor .u8 x7 (Go.bits .and .u8 b 240), x8, x9, x10, Go.bits .xor .u8 x11 (Go.bits .and .u8 b 240), x12, x13, x14, x15] (15)) (fun k => ?_) ?_
        · simp only [casketlaw16_PolyClamped.l0]
          rw [if_pos (by decide), if_pos (by decide), if_pos (by simp), w64 (by decide) (by decide)]
          rfl
        refine Ev.step (f := fun k => casketlaw16_PolyClamped.l0 k [x0, x1, x2, x3, x4, x5, x6, x7, x8, x9, x10, x11, x12, x13, x14, x15] s m b true [x0, x1, x2, Go.bits .xor .u8 x3 (Go.bits .and .u8 b 240), x4, x5, x6, Go.bits .xor .u8 x7 (Go.bits .and .u8 b 240), x8, x9, x10, Go.bits .xor .u8 x11 (Go.bits .and .u8 b 240), x12, x13, x14, Go.bits .xor .u8 x15 (Go.bits .and .u8 b 240)] (19)) (fun k => ?_) ?_
        · simp only [casketlaw16_PolyClamped.l0]
          rw [if_pos (by decide), if_pos (by decide), if_pos (by simp), w64 (by decide) (by decide)]
          rfl
        refine Ev.step (f := fun k => casketlaw16_PolyClamped.l1 k [x0, x1, x2, x3, x4, x5, x6, x7, x8, x9, x10, x11, x12, x13, x14, x15] s m b true [x0, x1, x2, Go.bits .xor .u8 x3 (Go.bits .and .u8 b 240), x4, x5, x6, Go.bits .xor .u8 x7 (Go.bits .and .u8 b 240), x8, x9, x10, Go.bits .xor .u8 x11 (Go.bits .and .u8 b 240), x12, x13, x14, Go.bits .xor .u8 x15 (Go.bits .and .u8 b 240)] (4)) (fun k => ?_) ?_
        · simp only [casketlaw16_PolyClamped.l0]
          rw [if_neg (by decide)]
        refine Ev.step (f := fun k => casketlaw16_PolyClamped.l1 k [x0, x1, x2, x3, x4, x5, x6, x7, x8, x9, x10, x11, x12, x13, x14, x15] s m b true [x0, x1, x2, Go.bits .xor .u8 x3 (Go.bits .and .u8 b 240), Go.bits .xor .u8 x4 (Go.bits .and .u8 b 3), x5, x6, Go.bits .xor .u8 x7 (Go.bits .and .u8 b 240), x8, x9, x10, Go.bits .xor .u8 x11 (Go.bits .and .u8 b 240), x12, x13, x14, Go.bits .xor .u8 x15 (Go.bits .and .u8 b 240)] (8)) (fun k => ?_) ?_
        · simp only [casketlaw16_PolyClamped.l1]
          rw [if_pos (by decide), if_pos (by decide), if_pos (by simp), w64 (by decide) (by decide)]
          rfl
        refine Ev.step (f := fun k => casketlaw16_PolyClamped.l1 k [x0, x1, x2, x3, x4, x5, x6, x7, x8, x9, x10, x11, x12, x13, x14, x15] s m b true [x0, x1, x2, Go.bits .xor .u8 x3 (Go.bits .and .u8 b 240), Go.bits .xor .u8 x4 (Go.bits .and .u8 b 3), x5, x6, Go.bits .xor .u8 x7 (Go.bits .and .u8 b 240), Go.bits .xor .u8 x8 (Go.bits .and .u8 b 3), x9, x10, Go.bits .xor .u8 x11 (Go.bits .and .u8 b 240), x12, x13, x14, Go.bits .xor .u8 x15 (Go.bits .and .u8 b 240)] (12)) (fun k => ?_) ?_
        · simp only [casketlaw16_PolyClamped.l1]
          rw [if_pos (by decide), if_pos (by decide), if_pos (by simp), w64 (by decide) (by decide)]
          rfl
        refine Ev.step (f := fun k => casketlaw16_PolyClamped.l1 k [x0, x1, x2, x3, x4, x5, x6, x7, x8, x9, x10, x11, x12, x13, x14, x15] s m b true [x0, x1, x2, Go.bits .xor .u8 x3 (Go.bits .and .u8 b 240), Go.bits .xor .u8 x4 (Go.bits .and .u8 b 3), x5, x6, Go.bits .xor .u8 x7 (Go.bits .and .u8 b 240), Go.bits .xor .u8 x8 (Go.bits .and .u8 b 3), x9, x10, Go.bits .xor .u8 x11 (Go.bits .and .u8 b 240), Go.bits .xor .u8 x12 (Go.bits .and .u8 b 3), x13, x14, Go.bits .xor .u8 x15 (Go.bits .and .u8 b 240)] (16)) (fun k => ?_) ?_
        · simp only [casketlaw16_PolyClamped.l1]
          rw [if_pos (by decide), if_pos (by decide), if_pos (by simp), w64 (by decide) (by decide)]
          rfl

        have hb2 : Bytes ([x0, x1, x2, Go.bits .xor .u8 x3 (Go.bits .and .u8 b 240), Go.bits .xor .u8 x4 (Go.bits .and .u8 b 3), x5, x6, Go.bits .xor .u8 x7 (Go.bits .and .u8 b 240), Go.bits .xor .u8 x8 (Go.bits .and .u8 b 3), x9, x10, Go.bits .xor .u8 x11 (Go.bits .and .u8 b 240), Go.bits .xor .u8 x12 (Go.bits .and .u8 b 3), x13, x14, Go.bits .xor .u8 x15 (Go.bits .and .u8 b 240)] ++ s) := Bytes.append (oth_bytes x0 x1 x2 x3 x4 x5 x6 x7 x8 x9 x10 x11 x12 x13 x14 x15 b Hr) Hs
        have f1 := pmac_f ([x0, x1, x2, x3, x4, x5, x6, x7, x8, x9, x10, x11, x12, x13, x14, x15] ++ s) m (by simp only [List.length_append, List.length_cons, List.length_nil]; omega) (Bytes.append Hr Hs) Hm (by omega)
        have f2 := pmac_f ([x0, x1, x2, Go.bits .xor .u8 x3 (Go.bits .and .u8 b 240), Go.bits .xor .u8 x4 (Go.bits .and .u8 b 3), x5, x6, Go.bits .xor .u8 x7 (Go.bits .and .u8 b 240), Go.bits .xor .u8 x8 (Go.bits .and .u8 b 3), x9, x10, Go.bits .xor .u8 x11 (Go.bits .and .u8 b 240), Go.bits .xor .u8 x12 (Go.bits .and .u8 b 3), x13, x14, Go.bits .xor .u8 x15 (Go.bits .and .u8 b 240)] ++ s) m (by simp only [List.length_append, List.length_cons, List.length_nil]; omega) hb2 Hm (by omega)
        rw [hp] at f1
        have hml := macP_length ([x0, x1, x2, Go.bits .xor .u8 x3 (Go.bits .and .u8 b 240), Go.bits .xor .u8 x4 (Go.bits .and .u8 b 3), x5, x6, Go.bits .xor .u8 x7 (Go.bits .and .u8 b 240), Go.bits .xor .u8 x8 (Go.bits .and .u8 b 3), x9, x10, Go.bits .xor .u8 x11 (Go.bits .and .u8 b 240), Go.bits .xor .u8 x12 (Go.bits .and .u8 b 3), x13, x14, Go.bits .xor .u8 x15 (Go.bits .and .u8 b 240)] ++ s) m
        refine Ev.step (f := fun k => (casketlaw16_same.f k (macP ([x0, x1, x2, Go.bits .xor .u8 x3 (Go.bits .and .u8 b 240), Go.bits .xor .u8 x4 (Go.bits .and .u8 b 3), x5, x6, Go.bits .xor .u8 x7 (Go.bits .and .u8 b 240), Go.bits .xor .u8 x8 (Go.bits .and .u8 b 3), x9, x10, Go.bits .xor .u8 x11 (Go.bits .and .u8 b 240), Go.bits .xor .u8 x12 (Go.bits .and .u8 b 3), x13, x14, Go.bits .xor .u8 x15 (Go.bits .and .u8 b 240)] ++ s) m) (macP ([x0, x1, x2, Go.bits .xor .u8 x3 (Go.bits .and .u8 b 240), Go.bits .xor .u8 x4 (Go.bits .and .u8 b 3), x5, x6, Go.bits .xor .u8 x7 (Go.bits .and .u8 b 240), Go.bits .xor .u8 x8 (Go.bits .and .u8 b 3), x9, x10, Go.bits .xor .u8 x11 (Go.bits .and .u8 b 240), Go.bits .xor .u8 x12 (Go.bits .and .u8 b 3), x13, x14, Go.bits .xor .u8 x15 (Go.bits .and .u8 b 240)] ++ s) m)).bind fun t521 => (some t521)) (fun k => ?_) ?_
        · simp only [casketlaw16_PolyClamped.l1, Option.bind_some, List.nil_append, List.length_nil]
          rw [if_neg (by decide), if_pos (by simp), if_pos (by simp only [List.length_cons, List.length_nil]; omega), f1]
          simp only [Option.bind_some]
          rw [if_pos (by simp only [List.length_cons, List.length_nil]; omega), f2]
          simp only [Option.bind_some, if_true]
        · refine Ev.bind (same16_ev _ _ (by omega)) ?_
          rw [decide_eq_true rfl]
          exact Ev.now _
    · simp only [if_neg h2]
      exact long
  · simp only [if_neg h1]
    exact long
end Go.Proofs.Ytllaobhheokafaa.Pure
