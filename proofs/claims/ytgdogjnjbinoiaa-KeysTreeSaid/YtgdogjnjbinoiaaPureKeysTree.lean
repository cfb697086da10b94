/- The keys of any master key and tenant, and any nonce, or why there are none, are the reference's: the pure statement. -/
import Derived.Test.YtgdogjnjbinoiaaDKeysTree
import Derived.Test.YtgdogjnjbinoiaaFkeys
namespace Go.Proofs.Ytgdogjnjbinoiaa.Pure
open Go.RowKit Go.Proofs.Ytgdogjnjbinoiaa.Q Go.Proofs.Ytgdogjnjbinoiaa.F Go.Proofs.YtgdogjnjbinoiaaW.PrintWords Go.Proofs.YtgdogjnjbinoiaaW.PrintLast Go.Proofs.YtgdogjnjbinoiaaW.PrintMore
set_option linter.unusedVariables false

theorem KeysTree : casketlaw18_KeysTree.Pure := by
  intro key s v i _ _ hk _ hv hi
  have hb := bytes_of hk
  obtain ⟨a, a1, a2, a3, _⟩ := derive_both key 1 s hb (by decide)
  obtain ⟨b, b1, b2, b3, _⟩ := derive_both key 4 (⟨#[]⟩ : ByteArray) hb (by decide)
  obtain ⟨c, c1, c2, c3, _⟩ := derive_both key 2 (⟨#[]⟩ : ByteArray) hb (by decide)
  have hi2 := wf_i64 hi
  have n1 := nonce_ev key v i hi2
  have n2 := refnonce_ev key v i hb hi2
  have n3 := nonceW_len key v i
  have tA : keys_Tenant.f key s = some a := by simp only [keys_Tenant.f, a1, Option.bind_some]
  have tB : casketref18_Tenant.f key s = some a := by simp only [casketref18_Tenant.f, a2, Option.bind_some]
  have mA : keys_Manifest.f key = some b := by simp only [keys_Manifest.f, b1, Option.bind_some]
  have mB : casketref18_Manifest.f key = some b := by simp only [casketref18_Manifest.f, b2, Option.bind_some]
  have sA : keys_Seal.f key = some c := by simp only [keys_Seal.f, c1, Option.bind_some]
  have sB : casketref18_Seal.f key = some c := by simp only [casketref18_Seal.f, c2, Option.bind_some]
  apply Ev.rounds
  unfold casketlaw18_KeysTree.f
  refine Ev.bind awake18_ev ?_
  have long : Ev (fun k => casketlaw18_KeysTree.j0 k key s v i true true) true := Ev.step (f := fun _ => some true) (fun k => by simp only [casketlaw18_KeysTree.j0]; rfl) (Ev.now _)
  have same : ∀ x : List Int, x.length ≤ 32 → Ev (fun k => casketlaw18_same.f k x x) true := fun x hx => by
    have h := same18_ev x x (by omega)
    rwa [decide_eq_true rfl] at h
  have core : Ev (fun k => casketlaw18_KeysTree.j0 k key s v i true false) true := by
    refine Ev.step (f := fun k => (casketlaw18_same.f k a.1 a.1).bind fun t676 => (if t676 = true then ((casketlaw18_same.f k b.1 b.1).bind fun t677 => (casketlaw18_KeysTree.j1 k key v i true (!t677))) else (casketlaw18_KeysTree.j1 k key v i true true))) (fun k => ?_) ?_
    · simp only [casketlaw18_KeysTree.j0, tA, tB, mA, mB, Option.bind_some]
      rw [if_neg (by simp)]
      simp only [if_true]
    · refine Ev.bind (same a.1 a3) ?_
      simp only [if_true]
      refine Ev.bind (same b.1 b3) ?_
      refine Ev.step (f := fun k => (keys_Nonce.f k key v i).bind fun bt686 => ((casketref18_Nonce.f k key v i).bind fun bt690 => ((casketlaw18_same.f k c.1 c.1).bind fun t694 => (if t694 = true then (if bt686.2 = bt690.2 then ((casketlaw18_same.f k bt686.1 bt690.1).bind fun t695 => (some t695)) else (some false)) else (some false))))) (fun k => ?_) ?_
      · simp only [casketlaw18_KeysTree.j1, sA, sB, Option.bind_some]
        rw [if_neg (by simp)]
        simp only [if_true]
      · refine Ev.bind n1 ?_
        refine Ev.bind n2 ?_
        refine Ev.bind (same c.1 c3) ?_
        simp only [if_true]
        refine Ev.bind (same _ (by omega)) ?_
        exact Ev.now _
  by_cases h4 : (key.length : Int) > 300
  · simp only [if_pos h4]
    exact long
  · simp only [if_neg h4]
    by_cases h5 : (s.size : Int) > 1000
    · simp only [decide_eq_true h5]
      exact long
    · simp only [decide_eq_false h5]
      exact core
end Go.Proofs.Ytgdogjnjbinoiaa.Pure
