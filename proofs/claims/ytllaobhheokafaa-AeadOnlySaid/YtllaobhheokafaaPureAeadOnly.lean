/- What is opened was sealed: the pure statement. -/
import Derived.Test.YtllaobhheokafaaDAeadOnly
import Derived.Test.YtllaobhheokafaaFaea2
namespace Go.Proofs.Ytllaobhheokafaa.Pure
open Go.RowKit Go.Proofs.Ytllaobhheokafaa.Q Go.Proofs.Ytllaobhheokafaa.F Go.Proofs.YtllaobhheokafaaW.PrintWords Go.Proofs.YtllaobhheokafaaW.PrintLast Go.Proofs.YtllaobhheokafaaW.PrintMore
set_option linter.unusedVariables false
set_option linter.unusedSimpArgs false
theorem AeadOnly : casketlaw17_AeadOnly.Pure := by
  intro key nonce ad s _ _ hk _ _ hn _ _ ha _ _ hs
  apply Ev.rounds
  unfold casketlaw17_AeadOnly.f
  refine Ev.bind awake17 ?_
  have long : Ev (fun k => casketlaw17_AeadOnly.j0 k key nonce ad s true true) true := Ev.step (f := fun _ => some true) (fun k => by simp only [casketlaw17_AeadOnly.j0]; rfl) (Ev.now _)
  by_cases h1 : (ad.length : Int) > 300
  · simp only [if_pos h1]
    exact long
  simp only [if_neg h1]
  by_cases h2 : (s.length : Int) > 600
  · simp only [decide_eq_true h2]
    exact long
  simp only [decide_eq_false h2]
  have Ha := bytes_of ha
  have Hs := bytes_of hs
  by_cases h : key.length = 32 ∧ nonce.length = 12
  · have ho := open_ev key nonce ad s h.1 h.2 (by omega) (by omega) Ha Hs
    refine Ev.step (f := fun k => (aead_Open.f k key nonce ad s).bind fun bt735 => (if bt735.2 = 0 then ((aead_Seal.f k key nonce ad bt735.1).bind fun bt739 => (if bt739.2 = 0 then ((casketlaw17_same.f k bt739.1 s).bind fun t743 => (some t743)) else (some false))) else (some ((bt735.1.length : Int) == 0)))) (fun k => ?_) ?_
    · simp only [casketlaw17_AeadOnly.j0]
      rw [if_neg (by decide)]
      simp only [if_true]
    · refine Ev.bind ho ?_
      by_cases h0 : (openW key nonce ad s).2 = 0
      · have hso := seal_open key nonce ad s Hs h0
        simp only [if_pos h0]
        refine Ev.congr (f := fun k => (casketlaw17_same.f k s s).bind fun t743 => (some t743)) (fun k => ?_) ?_
        · rw [seal_f k key nonce ad _ h.1 h.2 (by omega) (by omega) Ha]
          simp only [Option.bind_some, if_true]
          rw [hso.1]
        · have := same17_ev s s (by omega)
          rw [decide_eq_true rfl] at this
          exact Ev.bind this (Ev.now _)
      · simp only [if_neg h0, open_fst key nonce ad s h0]
        exact Ev.now _
  · refine Ev.step (f := fun _ => some true) (fun k => ?_) (Ev.now _)
    simp only [casketlaw17_AeadOnly.j0]
    rw [if_neg (by decide), open_none key nonce ad s h (by omega) k]
    rfl
end Go.Proofs.Ytllaobhheokafaa.Pure
