/- A nonce is the beginning of a tag of version and index: the pure statement. -/
import Derived.Test.YtgdogjnjbinoiaaDKeysNonces
import Derived.Test.YtgdogjnjbinoiaaFkeys
namespace Go.Proofs.Ytgdogjnjbinoiaa.Pure
open Go.RowKit Go.Proofs.Ytgdogjnjbinoiaa.Q Go.Proofs.Ytgdogjnjbinoiaa.F Go.Proofs.YtgdogjnjbinoiaaW.PrintWords Go.Proofs.YtgdogjnjbinoiaaW.PrintLast Go.Proofs.YtgdogjnjbinoiaaW.PrintMore
set_option linter.unusedVariables false

theorem KeysNonces : casketlaw18_KeysNonces.Pure := by
  intro key v i _ _ hk hv hi
  have hb := bytes_of hk
  have hi2 := wf_i64 hi
  apply Ev.rounds
  unfold casketlaw18_KeysNonces.f
  refine Ev.bind awake18_ev ?_
  have long : Ev (fun k => casketlaw18_KeysNonces.j0 k key v i true true) true := Ev.step (f := fun _ => some true) (fun k => by simp only [casketlaw18_KeysNonces.j0]; rfl) (Ev.now _)
  by_cases h4 : (key.length : Int) = 32
  · simp only [if_pos h4]
    by_cases h5 : i < 0
    · simp only [if_pos h5]
      exact long
    · simp only [if_neg h5]
      by_cases h6 : i ≥ 1048576
      · simp only [decide_eq_true h6]
        exact long
      · simp only [decide_eq_false h6]
        have e1 : keys_Derive.f key 3 (⟨#[]⟩ : ByteArray) = some (macW key [keyText 3 (⟨#[]⟩ : ByteArray) ++ [1]], 0) := by
          unfold keys_Derive.f
          rw [if_pos (by omega), if_pos (by decide)]
        have n1 := nonce_ev key v i hi2
        have e2 : nonceW key v i = ((macW (macW key [keyText 3 (⟨#[]⟩ : ByteArray) ++ [1]]) [fixN v 8 8 ++ fixN (IntKind.u64.wrap i) 4 4]).take 12, 0) := if_pos ⟨by omega, by omega, by omega⟩
        rw [e2] at n1
        have hK := mac_len key (keyText 3 (⟨#[]⟩ : ByteArray) ++ [1])
        generalize macW key [keyText 3 (⟨#[]⟩ : ByteArray) ++ [1]] = K at hK e1 n1
        have hw : IntKind.u64.wrap i = i := wu64 (by omega) (by omega)
        rw [hw] at n1
        have e4 : fixN i 4 4 = [0, (i / 65536) % 256, (i / 256) % 256, (i) % 256] := by
          have : fixN i 4 4 = [i / 2 ^ 24 % 256, i / 2 ^ 16 % 256, i / 2 ^ 8 % 256, i / 2 ^ 0 % 256] := rfl
          rw [this, show (2 : Int) ^ 24 = 16777216 by decide, show (2 : Int) ^ 16 = 65536 by decide, show (2 : Int) ^ 8 = 256 by decide, show (2 : Int) ^ 0 = 1 by decide, Int.ediv_one, show i / 16777216 % 256 = 0 by omega]
        refine Ev.step (f := fun k => (keys_Nonce.f k key v i).bind fun bt591 => (casketlaw18_KeysNonces.l0 k v i true K 0 bt591.1 bt591.2 ([] : List Int) 7)) (fun k => ?_) ?_
        · simp only [casketlaw18_KeysNonces.j0, e1, Option.bind_some]
          rw [if_neg (by simp)]
        · refine Ev.bind n1 ?_
          rw [e4]
          have hm := mac_len K (fixN v 8 8 ++ [0, (i / 65536) % 256, (i / 256) % 256, (i) % 256])
          have hmf := mac_f K (fixN v 8 8 ++ [0, (i / 65536) % 256, (i / 256) % 256, (i) % 256]) (by omega) (by rw [List.length_append, fixN_length]; simp)
          generalize macW K [fixN v 8 8 ++ [0, (i / 65536) % 256, (i / 256) % 256, (i) % 256]] = M at hm hmf ⊢
          have hl0 : ∀ acc : List Int, acc = fixN v 8 8 → Ev (fun k => casketlaw18_KeysNonces.l0 k v i true K 0 (M.take 12) 0 acc (-1)) true := fun acc ha => by
            refine Ev.step (f := fun k => (casketlaw18_same.f k (M.take 12) (M.take 12)).bind fun t611 => (some t611)) (fun k => ?_) ?_
            · simp only [casketlaw18_KeysNonces.l0]
              rw [if_neg (by decide), ha]
              simp only [Option.bind_some]
              rw [if_pos (by rw [fixN_length]; simp), hmf]
              simp only [Option.bind_some]
              rw [if_pos trivial, if_pos trivial, if_pos trivial, if_pos (by omega), if_pos (by omega)]
            · refine Ev.bind (same18_ev _ _ (by rw [List.length_take]; omega)) ?_
              rw [decide_eq_true rfl]
              exact Ev.now _
          refine Ev.step (f := fun k => casketlaw18_KeysNonces.l0 k v i true K 0 (M.take 12) 0 ([v / 2 ^ 56 % 256] : List Int) (6)) (fun k => ?_) ?_
          · simp only [casketlaw18_KeysNonces.l0]
            rw [if_pos (by decide), if_pos (by rw [w64 (by decide) (by decide), wu64 (by decide) (by decide)]; decide), if_pos (by simp)]
            kernel_rfl
          refine Ev.step (f := fun k => casketlaw18_KeysNonces.l0 k v i true K 0 (M.take 12) 0 ([v / 2 ^ 56 % 256, v / 2 ^ 48 % 256] : List Int) (5)) (fun k => ?_) ?_
          · simp only [casketlaw18_KeysNonces.l0]
            rw [if_pos (by decide), if_pos (by rw [w64 (by decide) (by decide), wu64 (by decide) (by decide)]; decide), if_pos (by simp)]
            kernel_rfl
          refine Ev.step (f := fun k => casketlaw18_KeysNonces.l0 k v i true K 0 (M.take 12) 0 ([v / 2 ^ 56 % 256, v / 2 ^ 48 % 256, v / 2 ^ 40 % 256] : List Int) (4)) (fun k => ?_) ?_
          · simp only [casketlaw18_KeysNonces.l0]
            rw [if_pos (by decide), if_pos (by rw [w64 (by decide) (by decide), wu64 (by decide) (by decide)]; decide), if_pos (by simp)]
            kernel_rfl
          refine Ev.step (f := fun k => casketlaw18_KeysNonces.l0 k v i true K 0 (M.take 12) 0 ([v / 2 ^ 56 % 256, v / 2 ^ 48 % 256, v / 2 ^ 40 % 256, v / 2 ^ 32 % 256] : List Int) (3)) (fun k => ?_) ?_
          · simp only [casketlaw18_KeysNonces.l0]
            rw [if_pos (by decide), if_pos (by rw [w64 (by decide) (by decide), wu64 (by decide) (by decide)]; decide), if_pos (by simp)]
            kernel_rfl
          refine Ev.step (f := fun k => casketlaw18_KeysNonces.l0 k v i true K 0 (M.take 12) 0 ([v / 2 ^ 56 % 256, v / 2 ^ 48 % 256, v / 2 ^ 40 % 256, v / 2 ^ 32 % 256, v / 2 ^ 24 % 256] : List Int) (2)) (fun k => ?_) ?_
          · simp only [casketlaw18_KeysNonces.l0]
            rw [if_pos (by decide), if_pos (by rw [w64 (by decide) (by decide), wu64 (by decide) (by decide)]; decide), if_pos (by simp)]
            kernel_rfl
          refine Ev.step (f := fun k => casketlaw18_KeysNonces.l0 k v i true K 0 (M.take 12) 0 ([v / 2 ^ 56 % 256, v / 2 ^ 48 % 256, v / 2 ^ 40 % 256, v / 2 ^ 32 % 256, v / 2 ^ 24 % 256, v / 2 ^ 16 % 256] : List Int) (1)) (fun k => ?_) ?_
          · simp only [casketlaw18_KeysNonces.l0]
            rw [if_pos (by decide), if_pos (by rw [w64 (by decide) (by decide), wu64 (by decide) (by decide)]; decide), if_pos (by simp)]
            kernel_rfl
          refine Ev.step (f := fun k => casketlaw18_KeysNonces.l0 k v i true K 0 (M.take 12) 0 ([v / 2 ^ 56 % 256, v / 2 ^ 48 % 256, v / 2 ^ 40 % 256, v / 2 ^ 32 % 256, v / 2 ^ 24 % 256, v / 2 ^ 16 % 256, v / 2 ^ 8 % 256] : List Int) (0)) (fun k => ?_) ?_
          · simp only [casketlaw18_KeysNonces.l0]
            rw [if_pos (by decide), if_pos (by rw [w64 (by decide) (by decide), wu64 (by decide) (by decide)]; decide), if_pos (by simp)]
            kernel_rfl
          refine Ev.step (f := fun k => casketlaw18_KeysNonces.l0 k v i true K 0 (M.take 12) 0 ([v / 2 ^ 56 % 256, v / 2 ^ 48 % 256, v / 2 ^ 40 % 256, v / 2 ^ 32 % 256, v / 2 ^ 24 % 256, v / 2 ^ 16 % 256, v / 2 ^ 8 % 256, v / 2 ^ 0 % 256] : List Int) (-1)) (fun k => ?_) ?_
          · simp only [casketlaw18_KeysNonces.l0]
            rw [if_pos (by decide), if_pos (by rw [w64 (by decide) (by decide), wu64 (by decide) (by decide)]; decide), if_pos (by simp)]
            kernel_rfl
          exact hl0 _ rfl
  · simp only [if_neg h4]
    exact long
end Go.Proofs.Ytgdogjnjbinoiaa.Pure
