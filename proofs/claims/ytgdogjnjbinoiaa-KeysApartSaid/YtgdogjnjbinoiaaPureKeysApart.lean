/- No two purposes, and no two names, have the same text go into a key: the pure statement. -/
import Derived.Test.YtgdogjnjbinoiaaDKeysApart
import Derived.Test.YtgdogjnjbinoiaaFkeys
import Derived.Laws.Strings
namespace Go.Proofs.Ytgdogjnjbinoiaa.Pure
open Go.RowKit Go.Proofs.Ytgdogjnjbinoiaa.Q Go.Proofs.Ytgdogjnjbinoiaa.F Go.Proofs.YtgdogjnjbinoiaaW.PrintWords Go.Proofs.YtgdogjnjbinoiaaW.PrintLast Go.Proofs.YtgdogjnjbinoiaaW.PrintMore
set_option linter.unusedVariables false
set_option linter.unusedSimpArgs false
theorem bytesOf_inj {a b : ByteArray} (h : bytesOf a = bytesOf b) : a = b := by
  have h2 : a.data.toList = b.data.toList := by
    have inj : ∀ x y : List UInt8, x.map (fun b => (b.toNat : Int)) = y.map (fun b => (b.toNat : Int)) → x = y := by
      intro x
      induction x with
      | nil =>
        intro y h
        cases y with
        | nil => rfl
        | cons _ _ => cases h
      | cons u x ih =>
        intro y h
        cases y with
        | nil => cases h
        | cons v y =>
          rw [List.map_cons, List.map_cons] at h
          injection h with h1 h2
          have h3 : u = v := UInt8.toNat_inj.mp (by omega)
          rw [ih y h2, h3]
    exact inj _ _ h
  cases a
  cases b
  exact congrArg ByteArray.mk (Array.ext' h2)
/-- What goes into a key. -/
def textW (p : Int) (a : ByteArray) : List Int := [p, (a.size : Int)] ++ (bytesOf a ++ [1])
theorem textW_key (p : Int) (a : ByteArray) : textW p a = keyText p a ++ [1] := rfl
theorem textW_length (p : Int) (a : ByteArray) : (textW p a).length = a.size + 3 := by
  rw [textW, List.length_append, List.length_append, bytesOf_length]
  simp only [List.length_cons, List.length_nil]
  omega
theorem textW_inj {p q : Int} {a b : ByteArray} (h : textW p a = textW q b) : p = q ∧ a = b := by
  unfold textW at h
  rw [List.cons_append, List.cons_append, List.cons_append, List.cons_append, List.nil_append, List.nil_append] at h
  injection h with h1 h2
  injection h2 with h2 h3
  exact ⟨h1, bytesOf_inj (List.append_inj_left' h3 rfl)⟩
theorem KeysApart : casketlaw18_KeysApart.Pure := by
  intro key p a q b _ _ hk hp _ hq _
  have Hk := bytes_of hk
  have Hp := wf_u8 hp
  have Hq := wf_u8 hq
  apply Ev.rounds
  unfold casketlaw18_KeysApart.f
  refine Ev.bind awake18_ev ?_
  have long : Ev (fun k => casketlaw18_KeysApart.j0 k key p a q b true true) true := Ev.step (f := fun _ => some true) (fun k => by simp only [casketlaw18_KeysApart.j0]; rfl) (Ev.now _)
  by_cases h1 : ¬ (key.length : Int) = 32
  · simp only [if_neg h1]
    exact long
  replace h1 : (key.length : Int) = 32 := Decidable.not_not.mp h1
  simp only [if_pos h1]
  by_cases h2 : (a.size : Int) > 64
  · simp only [if_pos h2]
    exact long
  simp only [if_neg h2]
  by_cases h3 : (b.size : Int) > 64
  · simp only [decide_eq_true h3]
    exact long
  simp only [decide_eq_false h3]
  have e1 : keys_Derive.f key p a = some (macW key [textW p a], 0) := by
    unfold keys_Derive.f
    rw [if_pos (by omega), if_pos (by omega), textW_key]
  have e2 : keys_Derive.f key q b = some (macW key [textW q b], 0) := by
    unfold keys_Derive.f
    rw [if_pos (by omega), if_pos (by omega), textW_key]
  have l1 := textW_length p a
  have l2 := textW_length q b
  have m1 := mac_f key (textW p a) (by omega) (by omega)
  have m2 := mac_f key (textW q b) (by omega) (by omega)
  have w1 := mac_len key (textW p a)
  have w2 := mac_len key (textW q b)
  have b1 := bytesOf_length a
  have b2 := bytesOf_length b
  have d2 : Ev (fun k => casketlaw18_KeysApart.j2 k key true (macW key [textW p a]) (macW key [textW q b]) (textW p a) (textW q b) false) true := by
    generalize macW key [textW p a] = M1 at m1 w1
    generalize macW key [textW q b] = M2 at m2 w2
    refine Ev.step (f := fun k => (casketlaw18_same.f k M1 M1).bind fun t738 => (if t738 = true then ((casketlaw18_same.f k M2 M2).bind fun t742 => (some t742)) else (some false))) (fun k => ?_) ?_
    · simp only [casketlaw18_KeysApart.j2, m1, m2, Option.bind_some]
      rw [if_neg (by decide), if_pos trivial]
    · refine Ev.bind (same18_ev M1 M1 (by omega)) ?_
      rw [decide_eq_true rfl]
      simp only [if_true]
      refine Ev.bind (same18_ev M2 M2 (by omega)) ?_
      rw [decide_eq_true rfl]
      exact Ev.now _
  generalize macW key [textW p a] = M1 at e1 d2
  generalize macW key [textW q b] = M2 at e2 d2
  refine Ev.step (f := fun k => casketlaw18_KeysApart.j1 k key p a q b true M1 M2 false) (fun k => ?_) ?_
  · simp only [casketlaw18_KeysApart.j0, e1, e2, Option.bind_some]
    rw [if_neg (by decide), if_pos trivial]
    rfl
  refine Ev.step (f := fun k => (casketlaw18_same.f k (textW p a) (textW q b)).bind fun t734 => (if p = q then (casketlaw18_KeysApart.j2 k key true M1 M2 (textW p a) (textW q b) (t734 != (a.toList == b.toList))) else (casketlaw18_KeysApart.j2 k key true M1 M2 (textW p a) (textW q b) (t734 != false)))) (fun k => ?_) ?_
  · simp only [casketlaw18_KeysApart.j1, Option.bind_some, List.nil_append]
    rw [if_neg (by decide), if_pos (by rw [List.length_nil]; omega), if_pos (by omega), if_pos (by rw [List.length_append, b1]; simp only [List.length_cons, List.length_nil]; omega), if_pos (by rw [List.length_nil]; omega), if_pos (by omega), if_pos (by rw [List.length_append, b2]; simp only [List.length_cons, List.length_nil]; omega), Int.emod_eq_of_lt (a := (a.size : Int)) (by omega) (by omega), Int.emod_eq_of_lt (a := (b.size : Int)) (by omega) (by omega)]
    rfl
  refine Ev.bind (same18_ev _ _ (by omega)) ?_
  by_cases h4 : p = q
  · simp only [if_pos h4]
    by_cases h5 : a = b
    · subst h5
      subst h4
      rw [decide_eq_true rfl, beq_self_eq_true]
      exact d2
    · have h6 : ¬ textW p a = textW q b := fun h => h5 (textW_inj h).2
      have h7 : (a.toList == b.toList) = false := by
        rw [beq_eq_false_iff_ne]
        intro h
        rw [ByteArray.toList_eq, ByteArray.toList_eq] at h
        exact h5 (bytesOf_inj (by unfold bytesOf; rw [h]))
      rw [decide_eq_false h6, h7]
      exact d2
  · simp only [if_neg h4]
    have h6 : ¬ textW p a = textW q b := fun h => h4 (textW_inj h).1
    rw [decide_eq_false h6]
    exact d2
end Go.Proofs.Ytgdogjnjbinoiaa.Pure
