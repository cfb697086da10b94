/- An archive of nothing: its parts. -/
import Derived.Test.YtkennblgbfhjiaaGreatDoorTchk
namespace Go.Proofs.YtkennblgbfhjiaaGreatDoor.Q
open Go.RowKit Go.Proofs.YtkennblgbfhjiaaGreatDoorW.PrintWords Go.Proofs.YtkennblgbfhjiaaGreatDoorW.PrintLast Go.Proofs.YtkennblgbfhjiaaGreatDoorW.PrintMore Go.Proofs.YtkennblgbfhjiaaGreatDoor.F Go.Proofs.YtkennblgbfhjiaaGreatDoor.H
set_option linter.unusedVariables false
set_option linter.unusedSimpArgs false
theorem mroot_none (w : World) : Calls Tryz.prog 85 #[.slice none 0 0] w fun e w' => ∃ v, e = .returned v ∧ SL w' v (shaW []) ∧ Below w.heap.size w w' := by
  go_enter Tryz.func85, Tryz.ntmps85
  go_wp2_with fail
  refine (sha_Sum.calls none 0 [] _ _ (Kd.C_nil _ _) (Nat.le_refl _) (sha_f [] (by decide))).mono ?_
  rintro e w1 ⟨v, rfl, h1, h2⟩
  have H1 := Aside0.mk (SL.of_R h1)
  have H2 := Aside0.mk h2
  clear h1 h2
  go_wp2
  go_ret
  exact ⟨_, rfl, H1.out, H2.out⟩
theorem rootof_none (w : World) : Calls Tryz.prog 35 #[.slice none 0 0] w fun e w' => ∃ v, e = .returned v ∧ SL w' v (shaW []) ∧ Below w.heap.size w w' := by
  go_enter Tryz.func35, Tryz.ntmps35
  go_wp2
  refine wp_loop_rounds 1 ?_
  rw [rounds_succ]
  go_wp2_with fail
  refine (mroot_none _).mono ?_
  rintro e w1 ⟨v, rfl, h1, h2⟩
  have H1 := Aside0.mk h1
  have H2 := Aside0.mk h2
  clear h1 h2
  go_wp2
  go_ret
  exact ⟨_, rfl, H1.out, H2.out⟩
theorem sealed_none (A : Option Addr) (n c : Nat) (v : Int) (w : World) : Calls Tryz.prog 33 #[.slice A n c, .int .u64 v, .slice none 0 0] w fun e w' => e = .returned (.tuple #[.slice none 0 0, .slice none 0 0, .int .i64 0]) ∧ w' = w := by
  go_enter Tryz.func33, Tryz.ntmps33
  go_wp2
  refine wp_loop_rounds 1 ?_
  rw [rounds_succ]
  go_wp2
  go_ret3
  exact ⟨rfl, rfl⟩
theorem growb_none (w : World) : Calls Tryz.prog 90 #[.slice none 0 0, .int .i64 0] w fun e w' => e = .returned (.slice none 0 0) ∧ w' = w := by
  go_enter Tryz.func90, Tryz.ntmps90
  go_wp2
  go_ret
  exact ⟨rfl, rfl⟩
theorem concat_none (w : World) : Calls Tryz.prog 38 #[.slice none 0 0] w fun e w' => e = .returned (.slice none 0 0) ∧ w' = w := by
  go_enter Tryz.func38, Tryz.ntmps38
  go_wp2
  refine wp_loop_rounds 1 ?_
  rw [rounds_succ]
  go_wp2_with fail
  refine (growb_none _).mono ?_
  rintro e w1 ⟨rfl, hw⟩
  subst hw
  go_wp2
  refine wp_loop_rounds 1 ?_
  rw [rounds_succ]
  go_wp2
  go_ret
  exact ⟨rfl, rfl⟩
theorem same_yes (A B : Option Addr) (n c m d : Nat) (a b : List Int) (w : World) (ha : SL w (.slice A n c) a) (hb : SL w (.slice B m d) b) (e : a = b) (hy : Bytes a) (la : a.length ≤ 1000) :
    Calls Tryz.prog 42 #[.slice A n c, .slice B m d] w fun e w' => e = .returned (.bool true) ∧ Below w.heap.size w w' := by
  obtain rfl := ha.len
  obtain rfl := hb.len
  subst e
  have hv := hsame_ev a a hy hy (by omega)
  rw [decide_eq_true rfl] at hv
  obtain ⟨kk, hk'⟩ := hv.rounds
  refine (hmac_Same.calls kk A c a B d a true w ha.C ha.cap hb.C hb.cap hk').mono ?_
  rintro e w' ⟨rfl, ⟨nd, rfl⟩⟩
  exact ⟨rfl, by first | exact below_drewN (Below.refl _ _) _ | exact pw_below_drewN (Below.refl _ _) _⟩
theorem trusts_yes (A : Option Addr) (n c : Nat) (v : Int) (r : List Int) (w : World) (h : SL w (.slice A n c) r) (h0 : 0 < n) :
    Calls Tryz.prog 32 #[.agg #[.int .u64 v, .slice A n c]] w fun e w' => e = .returned (.bool true) ∧ Below w.heap.size w w' := by
  obtain rfl := h.len
  exact archive_trusts.calls v A c r true w h.C h.cap (by unfold archive_trusts.f; rw [decide_eq_true (show (r.length : Int) > 0 by omega)])
set_option maxHeartbeats 1000000 in
theorem stale_same (Ap Ar As : Option Addr) (np cp cr cs : Nat) (r : List Int) (w : World) (hr : SL w (.slice Ar 32 cr) r) (hs : SL w (.slice As 32 cs) r) (hy : Bytes r) :
    Calls Tryz.prog 41 #[.agg #[.int .u64 1, .slice Ap np cp, .slice none 0 0, .slice Ar 32 cr], .agg #[.int .u64 1, .slice As 32 cs]] w fun e w' => e = .returned (.int .i64 0) ∧ Below w.heap.size w w' := by
  have hl := hr.len
  have B1 := (Bk.at0 w 74 [.int .u64 1, .slice Ap np cp, .slice none 0 0, .slice Ar 32 cr] _ rfl).alloc (.cells #[.int .u64 1, .slice As 32 cs] 43)
  have B2 := Bk.at0 (w.alloc (.cells #[.int .u64 1, .slice Ap np cp, .slice none 0 0, .slice Ar 32 cr] 74)) 43 [.int .u64 1, .slice As 32 cs] _ rfl
  have L0 : Below w.heap.size w ((w.alloc (.cells #[.int .u64 1, .slice Ap np cp, .slice none 0 0, .slice Ar 32 cr] 74)).alloc (.cells #[.int .u64 1, .slice As 32 cs] 43)) := below_alloc (below_alloc (Below.refl _ _) _) _
  simp only [World.size_alloc] at B2
  have HR := Aside0.mk (hr.below L0)
  have HS := Aside0.mk (hs.below L0)
  have HY := Aside0.mk hy
  have HL := Aside0.mk hl
  replace B1 := Aside0.mk B1
  replace B2 := Aside0.mk B2
  replace L0 := Aside0.mk L0
  clear hr hs hy hl
  go_enter Tryz.func41, Tryz.ntmps41
  go_wp2_with fail
  refine (trusts_yes As 32 cs 1 r _ HS.out (by decide)).mono ?_
  rintro e w1 ⟨rfl, l1⟩
  have B3 := B1.out.below l1
  have B4 := B2.out.below l1
  have hc0 : w1.cell? ⟨w.heap.size, 0, none⟩ = some (.int .u64 1) := B3.cell 0
  have hc3 : w1.cell? ⟨w.heap.size, 3, none⟩ = some (.slice Ar 32 cr) := B3.cell 3
  have hd0 : w1.cell? ⟨w.heap.size + 1, 0, none⟩ = some (.int .u64 1) := B4.cell 0
  have hd1 : w1.cell? ⟨w.heap.size + 1, 1, none⟩ = some (.slice As 32 cs) := B4.cell 1
  have R1 := Aside0.mk (HR.out.below l1)
  have S1 := Aside0.mk (HS.out.below l1)
  have L1 := Aside0.mk (below_then L0.out L0.out.size l1)
  clear B3 B4 l1 B1 B2 HR HS L0
  go_wp2_with fail
  refine (same_yes Ar As 32 cr 32 cs r r _ R1.out S1.out rfl HY.out (by rw [← HL.out]; decide)).mono ?_
  rintro e w2 ⟨rfl, l1⟩
  have L2 := Aside0.mk (below_then L1.out L1.out.size l1)
  clear l1 hc0 hc3 hd0 hd1 R1 S1 L1
  go_wp2
  go_ret
  exact ⟨rfl, L2.out⟩
end Go.Proofs.YtkennblgbfhjiaaGreatDoor.Q
