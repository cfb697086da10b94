/- What any bytes are opened to: the pure statement. -/
import Derived.Test.YtllaobhheokafaaDAeadOpens
import Derived.Test.YtllaobhheokafaaFref17
namespace Go.Proofs.Ytllaobhheokafaa.Pure
open Go.RowKit Go.Proofs.Ytllaobhheokafaa.Q Go.Proofs.Ytllaobhheokafaa.F Go.Proofs.YtllaobhheokafaaW.PrintWords Go.Proofs.YtllaobhheokafaaW.PrintLast Go.Proofs.YtllaobhheokafaaW.PrintMore
set_option linter.unusedVariables false
set_option linter.unusedSimpArgs false
theorem openW_length (key nonce ad s : List Int) (h : s.length ≤ 1000) : (openW key nonce ad s).1.length ≤ 140737488355328 := by
  unfold openW
  split
  · decide
  · split
    · show (streamW _ _ _ _).length ≤ _
      rw [streamW_length, List.length_take]
      omega
    · decide
theorem AeadOpens : casketlaw17_AeadOpens.Pure := by
  intro key nonce ad s _ _ hk _ _ hn _ _ ha _ _ hs
  apply Ev.rounds
  unfold casketlaw17_AeadOpens.f
  refine Ev.bind awake17 ?_
  have long : Ev (fun k => casketlaw17_AeadOpens.j0 k key nonce ad s true true) true := Ev.step (f := fun _ => some true) (fun k => by simp only [casketlaw17_AeadOpens.j0]; rfl) (Ev.now _)
  by_cases h1 : (ad.length : Int) > 300
  · simp only [if_pos h1]
    exact long
  simp only [if_neg h1]
  by_cases h2 : (s.length : Int) > 600
  · simp only [decide_eq_true h2]
    exact long
  simp only [decide_eq_false h2]
  have Ha := bytes_of ha
  have Hs := bytes_of hs
  refine Ev.step (f := fun k => (aead_Open.f k key nonce ad s).bind fun bt761 => ((casketref17_Open.f k key nonce ad s).bind fun bt765 => (if true = true then (if bt761.2 = bt765.2 then ((casketlaw17_same.f k bt761.1 bt765.1).bind fun t769 => (some t769)) else (some false)) else (some false)))) (fun k => by simp only [casketlaw17_AeadOpens.j0]; rfl) ?_
  by_cases h : key.length = 32 ∧ nonce.length = 12
  · refine Ev.bind (open_ev key nonce ad s h.1 h.2 (by omega) (by omega) Ha Hs) (Ev.bind (refopen_ev key nonce ad s h.1 h.2 (by omega) (by omega) Ha Hs) ?_)
    simp only [if_true]
    have := same17_ev (openW key nonce ad s).1 (openW key nonce ad s).1 (openW_length _ _ _ _ (by omega))
    rw [decide_eq_true rfl] at this
    exact Ev.bind this (Ev.now _)
  · have f1 : Ev (fun k => aead_Open.f k key nonce ad s) ([], 1) := Ev.congr (fun k => open_none key nonce ad s h (by omega) k) (Ev.now _)
    refine Ev.bind f1 (Ev.bind (refopen_none key nonce ad s h) ?_)
    simp only [if_true]
    exact Ev.bind (same17_ev [] [] (by decide)) (Ev.now _)
end Go.Proofs.Ytllaobhheokafaa.Pure
