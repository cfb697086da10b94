/- The root that leaves and a proof come to. -/
import Derived.Test.YtgdogjnjbinoiaaDoorHreb
namespace Go.Proofs.YtgdogjnjbinoiaaDoor.Q
open Go.RowKit Go.Proofs.YtgdogjnjbinoiaaDoorW.PrintWords Go.Proofs.YtgdogjnjbinoiaaDoorW.PrintLast Go.Proofs.YtgdogjnjbinoiaaDoorW.PrintMore Go.Proofs.YtgdogjnjbinoiaaDoor.H
set_option linter.unusedVariables false
set_option linter.unusedSimpArgs false
theorem six_new (w : World) (A B C D E F : Obj) : ((((((w.alloc A).alloc B).alloc C).alloc D).alloc E).alloc F).heap[w.heap.size]? = some A ∧ ((((((w.alloc A).alloc B).alloc C).alloc D).alloc E).alloc F).heap[w.heap.size + 1]? = some B ∧ ((((((w.alloc A).alloc B).alloc C).alloc D).alloc E).alloc F).heap[w.heap.size + 2]? = some C ∧ ((((((w.alloc A).alloc B).alloc C).alloc D).alloc E).alloc F).heap[w.heap.size + 3]? = some D ∧ ((((((w.alloc A).alloc B).alloc C).alloc D).alloc E).alloc F).heap[w.heap.size + 4]? = some E ∧ ((((((w.alloc A).alloc B).alloc C).alloc D).alloc E).alloc F).heap[w.heap.size + 5]? = some F ∧ Below w.heap.size w ((((((w.alloc A).alloc B).alloc C).alloc D).alloc E).alloc F) := by
  obtain ⟨h0, h1, h2, h3, h4, h5⟩ := five_new w A B C D E
  have hz : (((((w.alloc A).alloc B).alloc C).alloc D).alloc E).heap.size = w.heap.size + 5 := by simp
  have o : ∀ k, k < w.heap.size + 5 → ((((((w.alloc A).alloc B).alloc C).alloc D).alloc E).alloc F).heap[k]? = (((((w.alloc A).alloc B).alloc C).alloc D).alloc E).heap[k]? := fun k hk => heap_alloc_old _ F (show k < _ by rw [hz]; exact hk)
  have hn := heap_alloc_new (((((w.alloc A).alloc B).alloc C).alloc D).alloc E) F
  rw [hz] at hn
  exact ⟨(o _ (by omega)).trans h0, (o _ (by omega)).trans h1, (o _ (by omega)).trans h2, (o _ (by omega)).trans h3, (o _ (by omega)).trans h4, hn, h5.alloc (by rw [hz]; omega) F⟩
/-- The root as the program rebuilds it. -/
def rebuildW (n i : Int) (l p : List (List Int)) : List Int × Int :=
  if n < 1 ∨ n > 1048576 ∨ l.length = 0 ∨ i < 0 ∨ i ≥ n ∨ (l.length : Int) > n - i then ([], 1)
  else
    let t := topW n.toNat l i (i + l.length - 1) 0 n.toNat p false
    if t.2.2 = true ∨ 0 < t.2.1.length then ([], 8) else (t.1, 0)
theorem CtxR.keep_low {w0 : World} {A2 : Option Addr} {n2 c2 : Nat} {i j : Int} {p : List (List Int)} {s : Bool} {w : World} (h : CtxR w0 A2 n2 c2 i j p s w) : Below w0.heap.size w0 w := h.bel
set_option maxHeartbeats 4000000 in
set_option maxRecDepth 100000 in
theorem rebuild_any (n i : Int) (A2 : Option Addr) (c2 : Nat) (l : List (List Int)) (A3 : Option Addr) (c3 : Nat) (p : List (List Int)) (w : World) (hr2 : Kd.C (Kd.slice 5 (Kd.int .u8)) w A2 l.length l) (hc2 : l.length ≤ c2) (hr3 : Kd.C (Kd.slice 5 (Kd.int .u8)) w A3 p.length p) (hc3 : p.length ≤ c3) (hn : l.length ≤ 1000) (hs : Small l) (hpl : p.length ≤ 1000000) (hps : Small p) (ht : TabAt w) :
    Calls Tryd.prog 23 #[.int .i64 n, .int .i64 i, .slice A2 l.length c2, .slice A3 p.length c3] w fun e w' => ∃ v, e = .returned (.tuple #[v, .int .i64 (rebuildW n i l p).2]) ∧ Kd.R (Kd.int .u8) 5 w' w.heap.size (fun _ => True) v (rebuildW n i l p).1 ∧ Below w.heap.size w w' := by
  have hmf : ∀ (fn : Fn) (first cap : Array Value) (w : World), (Instr.makeFunc fn first cap).run Tryd.prog w = .ok (.func fn first cap) w := fun _ _ _ _ => rfl
  have HR2 := Aside0.mk hr2
  have HR3 := Aside0.mk hr3
  have HT := Aside0.mk ht
  clear hr2 hr3 ht
  have L3 := Aside0.mk ((((Below.refl w.heap.size w).alloc (Nat.le_refl _) (.cells #[.int .i64 i] 3)).alloc (by simp) (.cells #[.slice A2 l.length c2] 22)).alloc (by simp; omega) (.cells #[.slice A3 p.length c3] 22))
  by_cases c1 : n < 1
  · have c1b : decide (n < 1) = true := decide_eq_true c1
    have hp := Aside0.mk (show rebuildW n i l p = ([], 1) from if_pos (Or.inl c1))
    clear c1
    go_enter Tryd.func23, Tryd.ntmps23
    go_wp2
    go_ret2
    rw [hp.out]
    exact ⟨_, rfl, Kd.R_nil _ _ _ _ _, L3.out⟩
  have c1b : decide (n < 1) = false := decide_eq_false c1
  by_cases c2' : n > 1048576
  · have c2b : decide (1048576 < n) = true := decide_eq_true c2'
    have hp := Aside0.mk (show rebuildW n i l p = ([], 1) from if_pos (Or.inr (Or.inl c2')))
    clear c1 c2'
    go_enter Tryd.func23, Tryd.ntmps23
    go_wp2
    go_ret2
    rw [hp.out]
    exact ⟨_, rfl, Kd.R_nil _ _ _ _ _, L3.out⟩
  have c2b : decide (1048576 < n) = false := decide_eq_false c2'
  by_cases c3' : l.length = 0
  · have c3b : ((l.length : Int) == 0) = true := by rw [beq_iff_eq]; omega
    have hp := Aside0.mk (show rebuildW n i l p = ([], 1) from if_pos (Or.inr (Or.inr (Or.inl c3'))))
    clear c1 c2' c3'
    go_enter Tryd.func23, Tryd.ntmps23
    go_wp2
    go_ret2
    rw [hp.out]
    exact ⟨_, rfl, Kd.R_nil _ _ _ _ _, L3.out⟩
  have c3b : ((l.length : Int) == 0) = false := by rw [beq_eq_false_iff_ne]; omega
  by_cases c4 : i < 0
  · have c4b : decide (i < 0) = true := decide_eq_true c4
    have hp := Aside0.mk (show rebuildW n i l p = ([], 1) from if_pos (Or.inr (Or.inr (Or.inr (Or.inl c4)))))
    clear c1 c2' c3' c4
    go_enter Tryd.func23, Tryd.ntmps23
    go_wp2
    go_ret2
    rw [hp.out]
    exact ⟨_, rfl, Kd.R_nil _ _ _ _ _, L3.out⟩
  have c4b : decide (i < 0) = false := decide_eq_false c4
  by_cases c5 : i ≥ n
  · have c5b : decide (n ≤ i) = true := decide_eq_true c5
    have hp := Aside0.mk (show rebuildW n i l p = ([], 1) from if_pos (Or.inr (Or.inr (Or.inr (Or.inr (Or.inl c5))))))
    clear c1 c2' c3' c4 c5
    go_enter Tryd.func23, Tryd.ntmps23
    go_wp2
    go_ret2
    rw [hp.out]
    exact ⟨_, rfl, Kd.R_nil _ _ _ _ _, L3.out⟩
  have c5b : decide (n ≤ i) = false := decide_eq_false c5
  have b1 : (1 : Int) ≤ n := by omega
  have b2 : n ≤ 1048576 := by omega
  have b3 : 0 ≤ i := by omega
  have b4 : i < n := by omega
  by_cases c6 : (l.length : Int) > n - i
  · have c6b : decide (n - i < (l.length : Int)) = true := decide_eq_true c6
    have hp := Aside0.mk (show rebuildW n i l p = ([], 1) from if_pos (Or.inr (Or.inr (Or.inr (Or.inr (Or.inr c6))))))
    clear c1 c2' c3' c4 c5 c6
    go_enter Tryd.func23, Tryd.ntmps23
    go_wp2
    go_ret2
    rw [hp.out]
    exact ⟨_, rfl, Kd.R_nil _ _ _ _ _, L3.out⟩
  have c6b : decide (n - i < (l.length : Int)) = false := decide_eq_false c6
  obtain ⟨N, rfl⟩ : ∃ N : Nat, n = N := ⟨n.toNat, by omega⟩
  have b5 : 1 ≤ l.length := by omega
  have htop := Aside0.mk (fun wr => top_any A2 c2 l i (i + l.length - 1) w HR2.out hc2 hn hs HT.out b3 (by omega) rfl N 0 N p false wr (by omega) (by omega) (by omega) hpl hps)
  have hsm := topW_small N l i (i + l.length - 1) 0 N p false hs hn hps
  have hp : rebuildW N i l p = (let t := topW N l i (i + l.length - 1) 0 N p false; if t.2.2 = true ∨ 0 < t.2.1.length then ([], 8) else (t.1, 0)) := by
    rw [rebuildW, if_neg (by omega), Int.toNat_natCast]
  obtain ⟨⟨r, q, s⟩, hq⟩ : ∃ t, t = topW N l i (i + l.length - 1) 0 N p false := ⟨_, rfl⟩
  rw [← hq] at htop hp hsm
  dsimp only at htop hp hsm
  have hrl := hsm.1
  replace hp := Aside0.mk hp
  clear hq hsm c1 c2' c3' c4 c5 c6
  go_enter Tryd.func23, Tryd.ntmps23
  go_wp2_with fail
  obtain ⟨n0, n1, n2, n3, n4, n5, L5⟩ := six_new w (.cells #[.int .i64 i] 3) (.cells #[.slice A2 l.length c2] 22) (.cells #[.slice A3 p.length c3] 22) (.cells #[.int .i64 (i + l.length - 1)] 3) (.cells #[.bool false] 4) (.cells #[topV w.heap.size] 58)
  refine (htop.out _ ⟨L5, n0, n1, ⟨A3, c3, n2, hc3, HR3.out⟩, n3, n4, n5⟩).mono ?_
  rintro e w6 ⟨A6, c6, rfl, hc6, hC6, C6, K6⟩
  have L6 := Aside0.mk C6.bel
  have hcS := cell_of_one C6.hS
  obtain ⟨Aq, cq, hq1, hq2, hq3⟩ := C6.hP
  have hcP := cell_of_one hq1
  replace hC6 := Aside0.mk hC6
  replace hc6 := Aside0.mk hc6
  clear n0 n1 n2 n3 n4 n5 L5 K6 C6 L3 hq1 hq2 hq3
  cases s with
  | true =>
    have hp2 := Aside0.mk (show rebuildW N i l p = ([], 8) from hp.out.trans (if_pos (Or.inl rfl)))
    go_wp2
    go_ret2
    rw [hp2.out]
    exact ⟨_, rfl, Kd.R_nil _ _ _ _ _, L6.out⟩
  | false =>
    by_cases c7 : 0 < q.length
    · have hp2 := Aside0.mk (show rebuildW N i l p = ([], 8) from hp.out.trans (if_pos (Or.inr c7)))
      have c7b : decide (0 < q.length) = true := decide_eq_true c7
      have c7i : decide ((0 : Int) < (q.length : Int)) = true := decide_eq_true (by omega)
      clear c7
      go_wp2
      go_ret2
      rw [hp2.out]
      exact ⟨_, rfl, Kd.R_nil _ _ _ _ _, L6.out⟩
    · have hp2 := Aside0.mk (show rebuildW N i l p = (r, 0) from hp.out.trans (if_neg (by rintro (h | h); exact absurd h (by decide); exact c7 h)))
      have c7b : decide (0 < q.length) = false := decide_eq_false c7
      have c7i : decide ((0 : Int) < (q.length : Int)) = false := decide_eq_false (by omega)
      clear c7
      go_wp2_with fail
      refine (clone_any A6 c6 r w6 hC6.out hc6.out (by omega)).mono ?_
      rintro e w8 ⟨v1, rfl, O8, L8⟩
      go_wp2
      go_ret2
      rw [hp2.out]
      exact ⟨v1, rfl, Kd.R_lower O8 L6.out.size, L6.out.trans (L8.mono L6.out.size)⟩
end Go.Proofs.YtgdogjnjbinoiaaDoor.Q
