/- What is sealed is opened to the same: the pure statement. -/
import Derived.Test.YtllaobhheokafaaDAeadBack
import Derived.Test.YtllaobhheokafaaFaea2
namespace Go.Proofs.Ytllaobhheokafaa.Pure
open Go.RowKit Go.Proofs.Ytllaobhheokafaa.Q Go.Proofs.Ytllaobhheokafaa.F Go.Proofs.YtllaobhheokafaaW.PrintWords Go.Proofs.YtllaobhheokafaaW.PrintLast Go.Proofs.YtllaobhheokafaaW.PrintMore
set_option linter.unusedVariables false
set_option linter.unusedSimpArgs false
theorem AeadBack : casketlaw17_AeadBack.Pure := by
  intro key nonce ad p _ _ hk _ _ hn _ _ ha _ _ hp
  apply Ev.rounds
  unfold casketlaw17_AeadBack.f
  refine Ev.bind awake17 ?_
  have long : Ev (fun k => casketlaw17_AeadBack.j0 k key nonce ad p true true) true := Ev.step (f := fun _ => some true) (fun k => by simp only [casketlaw17_AeadBack.j0]; rfl) (Ev.now _)
  by_cases h1 : (ad.length : Int) > 300
  · simp only [if_pos h1]
    exact long
  simp only [if_neg h1]
  by_cases h2 : (p.length : Int) > 600
  · simp only [decide_eq_true h2]
    exact long
  simp only [decide_eq_false h2]
  have Ha := bytes_of ha
  have Hp := bytes_of hp
  by_cases h : key.length = 32 ∧ nonce.length = 12
  · have ho := open_ev key nonce ad (sealW key nonce ad p) h.1 h.2 (by omega) (by rw [sealW_length]; omega) Ha (sealW_bytes _ _ _ _)
    rw [open_seal key nonce ad p Hp] at ho
    have hl := sealW_length key nonce ad p
    have hse : ∀ k, aead_Seal.f k key nonce ad p = some (sealW key nonce ad p, 0) := fun k => seal_f k key nonce ad p h.1 h.2 (by omega) (by omega) Ha
    generalize sealW key nonce ad p = s at ho hl hse
    have e1 : (s.length : Int) = wrap64 ((p.length : Int) + 16) := by rw [hl, w64 (by omega) (by omega)]; omega
    refine Ev.step (f := fun k => (aead_Open.f k key nonce ad s).bind fun bt729 => (if bt729.2 = 0 then ((casketlaw17_same.f k bt729.1 p).bind fun t733 => (some t733)) else (some false))) (fun k => ?_) ?_
    · simp only [casketlaw17_AeadBack.j0]
      rw [if_neg (by decide), hse k, Option.bind_some, if_pos rfl]
      refine congrArg _ (funext fun bt => ?_)
      rw [if_pos trivial]
      exact if_pos e1
    · refine Ev.bind ho ?_
      simp only [if_true]
      have := same17_ev p p (by omega)
      rw [decide_eq_true rfl] at this
      exact Ev.bind this (Ev.now _)
  · refine Ev.step (f := fun _ => some true) (fun k => ?_) (Ev.now _)
    simp only [casketlaw17_AeadBack.j0]
    rw [if_neg (by decide), seal_f_none k key nonce ad p h]
    simp only [Option.bind_some, if_true]
    rw [if_neg (by decide), if_pos (by simp)]
    by_cases h3 : (key.length : Int) = 32
    · rw [if_pos h3]
      have : ((nonce.length : Int) != 12) = true := bne_iff_ne.mpr (fun e => h ⟨by omega, by omega⟩)
      rw [this]
    · rw [if_neg h3]
end Go.Proofs.Ytllaobhheokafaa.Pure
