/- Bytes that are turned are refused, unless their tag is the one that stands there: the pure statement. -/
import Derived.Test.YtllaobhheokafaaDAeadTurned
import Derived.Test.YtllaobhheokafaaFref17
namespace Go.Proofs.Ytllaobhheokafaa.Pure
open Go.RowKit Go.Proofs.Ytllaobhheokafaa.Q Go.Proofs.Ytllaobhheokafaa.F Go.Proofs.YtllaobhheokafaaW.PrintWords Go.Proofs.YtllaobhheokafaaW.PrintLast Go.Proofs.YtllaobhheokafaaW.PrintMore
set_option linter.unusedVariables false
set_option linter.unusedSimpArgs false
theorem xor8_range (a b : Int) : 0 ≤ Go.bits .xor .u8 a b ∧ Go.bits .xor .u8 a b < 256 := by
  show 0 ≤ IntKind.u8.wrap _ ∧ IntKind.u8.wrap _ < 256
  rw [IntKind.wrap_u8]
  omega
theorem open_snd (key nonce ad s : List Int) (h : 16 ≤ s.length) : (openW key nonce ad s).2 = if tagW key nonce ad (s.take (s.length - 16)) = s.drop (s.length - 16) then 0 else 5 := by
  unfold openW
  rw [if_neg (by omega)]
  split <;> rfl
/-- What is told at the end. -/
theorem told_end (e f : Int) (p q : Prop) [Decidable p] [Decidable q] (he : e = if p then 0 else 5) (hf : f = if q then 0 else 5) :
    (if true = true then (if ((e == 0) == decide p) = true then (if e = 0 then (if ((f == 0) == decide q) = true then (if f = 0 then (some true) else (some (f == 5))) else (some false)) else (if e = 5 then (if ((f == 0) == decide q) = true then (if f = 0 then (some true) else (some (f == 5))) else (some false)) else (some false))) else (some false)) else (some false)) = some true := by
  by_cases hp : p <;> by_cases hq : q <;> simp only [hp, hq, if_true, if_false] at he hf <;> subst he <;> subst hf <;> simp [hp, hq]
theorem AeadTurned : casketlaw17_AeadTurned.Pure := by
  intro key nonce ad p at_ by_ _ _ hk _ _ hn _ _ ha _ _ hp hat hby
  apply Ev.rounds
  unfold casketlaw17_AeadTurned.f
  refine Ev.bind awake17 ?_
  have long : Ev (fun k => casketlaw17_AeadTurned.j0 k key nonce ad p at_ by_ true true) true := Ev.step (f := fun _ => some true) (fun k => by simp only [casketlaw17_AeadTurned.j0]; rfl) (Ev.now _)
  by_cases h0 : ¬ (key.length : Int) = 32
  · simp only [if_neg h0]
    exact long
  replace h0 : (key.length : Int) = 32 := Decidable.not_not.mp h0
  simp only [if_pos h0]
  by_cases h12 : ¬ (nonce.length : Int) = 12
  · simp only [if_neg h12]
    exact long
  replace h12 : (nonce.length : Int) = 12 := Decidable.not_not.mp h12
  simp only [if_pos h12]
  by_cases h1 : (ad.length : Int) > 300
  · simp only [if_pos h1]
    exact long
  simp only [if_neg h1]
  by_cases h2 : (p.length : Int) > 600
  · simp only [decide_eq_true h2]
    exact long
  simp only [decide_eq_false h2]
  have Ha := bytes_of ha
  have Hp := bytes_of hp
  have hb := wf_u8 hby
  have hkl : key.length = 32 := by omega
  have hnl : nonce.length = 12 := by omega
  have hse : ∀ k, aead_Seal.f k key nonce ad p = some (sealW key nonce ad p, 0) := fun k => seal_f k key nonce ad p hkl hnl (by omega) (by omega) Ha
  have hsl := sealW_length key nonce ad p
  have Hs := sealW_bytes key nonce ad p
  generalize sealW key nonce ad p = s at hse hsl Hs
  refine Ev.step (f := fun k => casketlaw17_AeadTurned.j1 k key nonce ad at_ by_ true s false) (fun k => ?_) ?_
  · simp only [casketlaw17_AeadTurned.j0]
    rw [if_neg (by decide), hse k, Option.bind_some, if_pos rfl, show decide (((s, (0 : Int)).1.length : Int) < 16) = false from decide_eq_false (show ¬ (s.length : Int) < 16 by omega)]
  have hm := andmask at_ 65535 (by decide)
  obtain ⟨m, hme⟩ : ∃ m, m = Go.bits .and .i64 at_ 65535 := ⟨_, rfl⟩
  have hm2 : 0 ≤ m := by rw [hme]; exact hm.1
  clear hm
  obtain ⟨i, hi⟩ : ∃ i, i = m % (s.length : Int) := ⟨_, rfl⟩
  have hi1 : 0 ≤ i ∧ i < s.length := by rw [hi]; exact ⟨Int.emod_nonneg _ (by omega), Int.emod_lt_of_pos _ (by omega)⟩
  have hti : Int.tmod m (s.length : Int) = i := by rw [hi, Int.tmod_eq_emod_of_nonneg hm2]
  have Ho : Bytes (s.set i.toNat (Go.bits .xor .u8 (rd s i) by_)) := Hs.set _ (xor8_range _ _)
  have hol : (s.set i.toNat (Go.bits .xor .u8 (rd s i) by_)).length = s.length := List.length_set
  have hn16 := Aside0.mk (show wrap64 ((s.length : Int) - 16) = ((s.length - 16 : Nat) : Int) by rw [w64 (by omega) (by omega)]; omega)
  have Hb : Bytes (ad ++ [by_]) := Ha.snoc hb
  have hbl : (ad ++ [by_]).length = ad.length + 1 := by rw [List.length_append]; rfl
  have hT1 := reftag_ev key nonce ad ((s.set i.toNat (Go.bits .xor .u8 (rd s i) by_)).take (s.length - 16)) hkl hnl (by omega) (by rw [List.length_take]; omega) Ha (Ho.take _)
  have hO1 := open_ev key nonce ad (s.set i.toNat (Go.bits .xor .u8 (rd s i) by_)) hkl hnl (by omega) (by omega) Ha Ho
  have hT2 := reftag_ev key nonce (ad ++ [by_]) (s.take (s.length - 16)) hkl hnl (by omega) (by rw [List.length_take]; omega) Hb (Hs.take _)
  have hO2 := open_ev key nonce (ad ++ [by_]) s hkl hnl (by omega) (by omega) Hb Hs
  have s1 := open_snd key nonce ad (s.set i.toNat (Go.bits .xor .u8 (rd s i) by_)) (by omega)
  rw [hol] at s1
  have s2 := open_snd key nonce (ad ++ [by_]) s (by omega)
  have S1 := same17_ev (tagW key nonce ad ((s.set i.toNat (Go.bits .xor .u8 (rd s i) by_)).take (s.length - 16))) ((s.set i.toNat (Go.bits .xor .u8 (rd s i) by_)).drop (s.length - 16)) (by rw [tagW_length]; decide)
  have S2 := same17_ev (tagW key nonce (ad ++ [by_]) (s.take (s.length - 16))) (s.drop (s.length - 16)) (by rw [tagW_length]; decide)
  obtain ⟨o, ho⟩ : ∃ o, o = s.set i.toNat (Go.bits .xor .u8 (rd s i) by_) := ⟨_, rfl⟩
  rw [← ho] at hT1 hO1 s1 S1
  refine Ev.step (f := fun k => (casketref17_Tag.f k key nonce ad (o.take (s.length - 16))).bind fun t468 => ((casketlaw17_same.f k t468 (o.drop (s.length - 16))).bind fun t475 => ((aead_Open.f k key nonce ad o).bind fun bt476 => ((casketref17_Tag.f k key nonce (ad ++ [by_]) (s.take (s.length - 16))).bind fun t493 => ((casketlaw17_same.f k t493 (s.drop (s.length - 16))).bind fun t500 => ((aead_Open.f k key nonce (ad ++ [by_]) s).bind fun bt501 => (if true = true then (if ((bt476.2 == 0) == t475) = true then (if bt476.2 = 0 then (if ((bt501.2 == 0) == t500) = true then (if bt501.2 = 0 then (some true) else (some (bt501.2 == 5))) else (some false)) else (if bt476.2 = 5 then (if ((bt501.2 == 0) == t500) = true then (if bt501.2 = 0 then (some true) else (some (bt501.2 == 5))) else (some false)) else (some false))) else (some false)) else (some false)))))))) (fun k => ?_) ?_
  · simp only [casketlaw17_AeadTurned.j1, Option.bind_some, List.nil_append, ← hme, hti]
    rw [if_neg (by decide), if_pos (by rw [List.length_nil]; omega), if_neg (by omega), if_pos (by omega), if_pos (by omega), hn16.out, if_pos (by omega), if_pos (by omega), Int.toNat_natCast, ← ho]
    have c1 : ([] : List Int).length + ad.length < 140737488355328 := by rw [List.length_nil]; omega
    have c2 : ad.length < 140737488355328 := by omega
    have c3 : ((s.length - 16 : Nat) : Int) ≤ (s.length : Int) := by omega
    simp only [if_pos c1, if_pos c2, if_pos c3]
  refine Ev.bind hT1 ?_
  refine Ev.bind S1 ?_
  refine Ev.bind hO1 ?_
  refine Ev.bind hT2 ?_
  refine Ev.bind S2 ?_
  refine Ev.bind hO2 ?_
  rw [told_end _ _ _ _ s1 s2]
  exact Ev.now _
end Go.Proofs.Ytllaobhheokafaa.Pure
