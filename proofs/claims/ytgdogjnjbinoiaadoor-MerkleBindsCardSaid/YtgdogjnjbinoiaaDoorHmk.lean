/- Plain facts on the tree of sums: what the program's calls come to. No program in sight. -/
import Derived.Test.YtgdogjnjbinoiaaDoorFsha
import Derived.Test.YtgdogjnjbinoiaaDoorDmerkX
import Derived.Test.YtgdogjnjbinoiaaDoorDmrootX
import Derived.Test.YtgdogjnjbinoiaaDoorDmprove
import Derived.Test.YtgdogjnjbinoiaaDoorDref20
namespace Go.Proofs.YtgdogjnjbinoiaaDoor.Q
open Go.RowKit Go.Proofs.YtgdogjnjbinoiaaDoorW.PrintWords Go.Proofs.YtgdogjnjbinoiaaDoorW.PrintLast Go.Proofs.YtgdogjnjbinoiaaDoorW.PrintMore Go.Proofs.YtgdogjnjbinoiaaDoor.F
set_option linter.unusedVariables false
set_option linter.unusedSimpArgs false
theorem node_f (a b : List Int) (ha : a.length ≤ 1000000) (hb : b.length ≤ 1000000) : merkle_Node.f a b = some (nodeW a b) := by
  unfold merkle_Node.f merkle_summed.f
  have e : ([a, b] : List (List Int)).flatten = a ++ b := by simp
  rw [e, if_pos ⟨by rw [List.length_append]; omega, by simp⟩]
  rfl
theorem leaf_f (a : List Int) (ha : a.length ≤ 1000000) : merkle_Leaf.f a = some (shaW (0 :: a)) := by
  unfold merkle_Leaf.f merkle_summed.f
  have e : ([a] : List (List Int)).flatten = a := by simp
  rw [e, if_pos ⟨by omega, by simp⟩]
  rfl
theorem root_f (l : List (List Int)) (h : l.length ≤ 1000) (hs : Small l) : merkle_Root.f l = some (rootW l) := if_pos ⟨h, hs⟩
theorem prove_f (l : List (List Int)) (i j : Int) (h : l.length ≤ 1000) (hs : Small l) : merkle_Prove.f l i j = some (proveW l i j) := if_pos ⟨h, hs⟩
theorem nodeW_length (a b : List Int) : (nodeW a b).length = 32 := shaW_length _
/-! ### the lists of bytes of two rows -/
theorem rd_L1_nat (l : List (List Int)) (i : Nat) (h : i < l.length) : rd_L1 l (i : Nat) = l[i] := by simp [rd_L1, List.getD_eq_getElem?_getD, h]
theorem sames_ev (a b : List (List Int)) (ha : a.length ≤ 1000000) (hs : Small a) : Ev (fun k => casketref20_Same.f k a b) (decide (a = b)) := by
  unfold casketref20_Same.f
  by_cases hl : (a.length : Int) = (b.length : Int)
  · simp only [if_pos hl]
    have hl' : a.length = b.length := by omega
    have key : ∀ (d i : Nat), a.length - i = d → i ≤ a.length → a.take i = b.take i → Ev (fun k => casketref20_Same.l0 k a b i) (decide (a = b)) := by
      intro d
      induction d with
      | zero =>
        intro i hd hi ht
        refine Ev.step (f := fun _ => some true) (fun k => ?_) ?_
        · simp only [casketref20_Same.l0]; rw [if_neg (by omega)]
        · have : a = b := by
            rw [List.take_of_length_le (by omega), List.take_of_length_le (by omega)] at ht
            exact ht
          rw [decide_eq_true this]
          exact Ev.now _
      | succ d ih =>
        intro i hd hi ht
        have h1 : i < a.length := by omega
        have h2 : i < b.length := by omega
        refine Ev.step (f := fun k => (casketref01_Same.f k (rd_L1 a i) (rd_L1 b i)).bind fun t => if t = true then casketref20_Same.l0 k a b ((i + 1 : Nat) : Int) else some false) (fun k => ?_) ?_
        · simp only [casketref20_Same.l0]
          rw [if_pos (by omega), if_pos (by omega), if_pos (by omega), w64 (by omega) (by omega)]
          rfl
        · refine Ev.bind (same_ev _ _ (Nat.le_trans (small_rd hs _) (by decide))) ?_
          by_cases he : rd_L1 a i = rd_L1 b i
          · simp only [decide_eq_true he, if_true]
            refine ih (i + 1) (by omega) (by omega) ?_
            rw [List.take_succ_eq_append_getElem h1, List.take_succ_eq_append_getElem h2, ht]
            congr 2
            rw [rd_L1_nat a i h1, rd_L1_nat b i h2] at he
            exact he
          · simp only [decide_eq_false he]
            have : ¬ a = b := fun e => he (by rw [e])
            rw [decide_eq_false this]
            exact Ev.now _
    exact key a.length 0 (by omega) (by omega) rfl
  · simp only [if_neg hl]
    have : ¬ a = b := fun e => hl (by rw [e])
    rw [decide_eq_false this]
    exact Ev.now _
theorem at_ev {α : Type} {g : Nat → Option α} {r s : α} (hm : ∀ k, LeO (g k) (g (k + 1))) {k : Nat} (h : g k = some s) (he : Ev g r) : s = r := by
  obtain ⟨K, hK⟩ := he
  have h1 := hK (max K k) (by omega)
  have h2 := at_rounds hm (show k ≤ max K k by omega) h
  rw [h2] at h1
  exact Option.some.inj h1
/-! ### the document's example -/
def exL : List (List Int) := [[1], [2], [3]]
theorem exS : Small exL := fun x hx => by
  rw [exL, List.mem_cons, List.mem_cons, List.mem_singleton] at hx
  rcases hx with rfl | rfl | rfl <;> decide
theorem ex_root : rootW exL = nodeW (nodeW [1] [2]) [3] := by rfl
theorem ex_one (x : List Int) : rootW [x] = x := by rfl
theorem ex_p1 : proveW exL 1 1 = ([[1], [3]], 0) := by
  have h : walkW 3 exL 0 3 1 1 = [rootW [[1]]] ++ [] ++ [rootW [[3]]] := by rfl
  rw [ex_one, ex_one] at h
  show (walkW 3 exL 0 3 1 1, (0 : Int)) = _
  rw [h]
  rfl
theorem ex_p2 : proveW exL 0 2 = ([], 0) := by rfl
theorem aw_y {y : List (List Int)} {a b c : List Int} (ha : a = [1]) (hb : b = [2]) (hc : c = [3]) (hy : y = [a, b, c]) : y = exL := by rw [hy, ha, hb, hc]; rfl
theorem aw_z {y : List (List Int)} {a b : List Int} (ha : a = [1]) (hb : b = [3]) (hy : y = [a, b]) : y = [[1], [3]] := by rw [hy, ha, hb]
theorem aw_root {y : List (List Int)} {t : List Int} (hy : y = exL) (h : merkle_Root.f y = some t) : t = nodeW (nodeW [1] [2]) [3] := by
  rw [hy, root_f exL (by decide) exS, ex_root] at h
  exact (Option.some.inj h).symm
theorem aw_c11 {y : List (List Int)} {t : List Int} (hy : y = exL) (h : merkle_Root.f y = some t) : (t.length : Int) = 32 := by rw [aw_root hy h, nodeW_length]; rfl
theorem aw_p {y p : List (List Int)} {e : Int} (hy : y = exL) (h : merkle_Prove.f y 1 1 = some (p, e)) : p = [[1], [3]] ∧ e = 0 := by
  rw [hy, prove_f exL 1 1 (by decide) exS, ex_p1] at h
  injection h with h
  injection h with h1 h2
  exact ⟨h1.symm, h2.symm⟩
theorem aw_q {y p : List (List Int)} {e : Int} (hy : y = exL) (h : merkle_Prove.f y 0 2 = some (p, e)) : p = [] ∧ e = 0 := by
  rw [hy, prove_f exL 0 2 (by decide) exS, ex_p2] at h
  injection h with h
  injection h with h1 h2
  exact ⟨h1.symm, h2.symm⟩
theorem aw_c12 {y p : List (List Int)} {e : Int} (hy : y = exL) (h : merkle_Prove.f y 1 1 = some (p, e)) : e = 0 := (aw_p hy h).2
theorem aw_c15 {y p : List (List Int)} {e : Int} (hy : y = exL) (h : merkle_Prove.f y 0 2 = some (p, e)) : e = 0 := (aw_q hy h).2
theorem aw_c14 {k : Nat} {y p z : List (List Int)} {e : Int} {t : Bool} (hy : y = exL) (h : merkle_Prove.f y 1 1 = some (p, e)) (hz : z = [[1], [3]]) (hs : casketref20_Same.f k p z = some t) : t = true := by
  rw [(aw_p hy h).1, hz] at hs
  refine at_ev (fun k => casketref20_Same.mono _ _ k) hs ?_
  have := sames_ev [[1], [3]] [[1], [3]] (by decide) (fun x hx => by
    rw [List.mem_cons, List.mem_singleton] at hx
    rcases hx with rfl | rfl <;> decide)
  rw [decide_eq_true rfl] at this
  exact this
theorem aw_c10 {k : Nat} {y : List (List Int)} {a b c : List Int} {t : Bool} (hy : y = exL) (h1 : merkle_Root.f y = some a) (h2 : merkle_Node.f (rd_L1 y 0) (rd_L1 y 1) = some b) (h3 : merkle_Node.f b (rd_L1 y 2) = some c) (h4 : casketlaw20_same.f k a c = some t) : t = true := by
  have ea := aw_root hy h1
  subst hy
  rw [show rd_L1 exL 0 = [1] from rfl, show rd_L1 exL 1 = [2] from rfl, node_f _ _ (by decide) (by decide)] at h2
  have eb := (Option.some.inj h2).symm
  rw [show rd_L1 exL 2 = [3] from rfl, eb, node_f _ _ (by rw [nodeW_length]; decide) (by decide)] at h3
  have ec := (Option.some.inj h3).symm
  rw [ea, ec] at h4
  refine at_ev (fun k => casketlaw20_same.mono _ _ k) h4 ?_
  have := same13_ev (nodeW (nodeW [1] [2]) [3]) (nodeW (nodeW [1] [2]) [3]) (by rw [nodeW_length]; decide)
  rw [decide_eq_true rfl] at this
  exact this
end Go.Proofs.YtgdogjnjbinoiaaDoor.Q
