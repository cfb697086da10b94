/- What any bytes are sealed to: the pure statement. -/
import Derived.Test.YtllaobhheokafaaDAeadSeals
import Derived.Test.YtllaobhheokafaaFref17
namespace Go.Proofs.Ytllaobhheokafaa.Pure
open Go.RowKit Go.Proofs.Ytllaobhheokafaa.Q Go.Proofs.Ytllaobhheokafaa.F Go.Proofs.YtllaobhheokafaaW.PrintWords Go.Proofs.YtllaobhheokafaaW.PrintLast Go.Proofs.YtllaobhheokafaaW.PrintMore
set_option linter.unusedVariables false
set_option linter.unusedSimpArgs false
theorem AeadSeals : casketlaw17_AeadSeals.Pure := by
  intro key nonce ad p _ _ hk _ _ hn _ _ ha _ _ hp
  apply Ev.rounds
  unfold casketlaw17_AeadSeals.f
  refine Ev.bind awake17 ?_
  have long : Ev (fun k => casketlaw17_AeadSeals.j0 k key nonce ad p true true) true := Ev.step (f := fun _ => some true) (fun k => by simp only [casketlaw17_AeadSeals.j0]; rfl) (Ev.now _)
  by_cases h1 : (ad.length : Int) > 300
  · simp only [if_pos h1]
    exact long
  simp only [if_neg h1]
  by_cases h2 : (p.length : Int) > 600
  · simp only [decide_eq_true h2]
    exact long
  simp only [decide_eq_false h2]
  have Ha := bytes_of ha
  have Hp := bytes_of hp
  refine Ev.step (f := fun k => (aead_Seal.f k key nonce ad p).bind fun bt740 => ((casketref17_Seal.f k key nonce ad p).bind fun bt744 => (if true = true then (if bt740.2 = bt744.2 then ((casketlaw17_same.f k bt740.1 bt744.1).bind fun t748 => (some t748)) else (some false)) else (some false)))) (fun k => by simp only [casketlaw17_AeadSeals.j0]; rfl) ?_
  by_cases h : key.length = 32 ∧ nonce.length = 12
  · have hl := sealW_length key nonce ad p
    have f1 : Ev (fun k => aead_Seal.f k key nonce ad p) (sealW key nonce ad p, 0) := Ev.congr (fun k => seal_f k key nonce ad p h.1 h.2 (by omega) (by omega) Ha) (Ev.now _)
    refine Ev.bind f1 (Ev.bind (refseal_ev key nonce ad p h.1 h.2 (by omega) (by omega) Ha) ?_)
    simp only [if_true]
    have := same17_ev (sealW key nonce ad p) (sealW key nonce ad p) (by omega)
    rw [decide_eq_true rfl] at this
    exact Ev.bind this (Ev.now _)
  · have f1 : Ev (fun k => aead_Seal.f k key nonce ad p) ([], 1) := Ev.congr (fun k => seal_f_none k key nonce ad p h) (Ev.now _)
    refine Ev.bind f1 (Ev.bind (refseal_none key nonce ad p h) ?_)
    simp only [if_true]
    exact Ev.bind (same17_ev [] [] (by decide)) (Ev.now _)
end Go.Proofs.Ytllaobhheokafaa.Pure
