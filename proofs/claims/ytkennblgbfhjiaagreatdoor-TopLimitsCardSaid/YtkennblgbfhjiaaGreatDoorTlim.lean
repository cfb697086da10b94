/- Archives that are refused. -/
import Derived.Test.YtkennblgbfhjiaaGreatDoorTopen
namespace Go.Proofs.YtkennblgbfhjiaaGreatDoor.Q
open Go.RowKit Go.Proofs.YtkennblgbfhjiaaGreatDoorW.PrintWords Go.Proofs.YtkennblgbfhjiaaGreatDoorW.PrintLast Go.Proofs.YtkennblgbfhjiaaGreatDoorW.PrintMore Go.Proofs.YtkennblgbfhjiaaGreatDoor.F Go.Proofs.YtkennblgbfhjiaaGreatDoor.H
set_option linter.unusedVariables false
set_option linter.unusedSimpArgs false
/-! ### a key of 32 bytes -/
theorem key_l0 (n : Int) : ∀ j : Nat, j ≤ 8 → ∀ xs : List Int, xs.length = 32 → ∃ l, caskettop_key.l0 (j + 1) n xs (8 - (j : Int)) = some l ∧ l.length = 32
  | 0, _, xs, hx => ⟨xs, by rw [caskettop_key.l0, if_neg (by simp)], hx⟩
  | j + 1, hj, xs, hx => by
    have e1 : wrap64 (8 * (8 - ((j + 1 : Nat) : Int))) = 8 * (8 - ((j + 1 : Nat) : Int)) := w64 (by omega) (by omega)
    have e2 : IntKind.u64.wrap (8 * (8 - ((j + 1 : Nat) : Int))) = 8 * (8 - ((j + 1 : Nat) : Int)) := wu64 (by omega) (by omega)
    have e3 : wrap64 (8 - ((j + 1 : Nat) : Int) + 1) = 8 - (j : Int) := by rw [w64 (by omega) (by omega)]; omega
    rw [caskettop_key.l0, if_pos (by omega), e1, e2, if_pos (by omega), if_pos (by omega), if_pos (by rw [hx]; omega), e3]
    exact key_l0 n j (by omega) _ (by rw [List.length_set]; exact hx)
theorem key_ev (n : Int) : ∃ l, caskettop_key.f 9 n = some l ∧ l.length = 32 := by
  obtain ⟨l, h, hl⟩ := key_l0 n 8 (by omega) (List.replicate 32 0) rfl
  refine ⟨l, ?_, hl⟩
  unfold caskettop_key.f
  rw [if_pos (by decide)]
  exact h
/-- The key made of a number. -/
noncomputable def keyB (n : Int) : List Int := (key_ev n).choose
theorem keyB_length (n : Int) : (keyB n).length = 32 := (key_ev n).choose_spec.2
theorem key_any (n : Int) (w : World) : Calls Tryz.prog 7 #[.int .i64 n] w fun e w' => ∃ A c, e = .returned (.slice A 32 c) ∧ SL w' (.slice A 32 c) (keyB n) ∧ Below w.heap.size w w' := by
  refine (caskettop_key.calls 9 n (keyB n) w (key_ev n).choose_spec.1).mono ?_
  rintro e w' ⟨v, rfl, h1, h2⟩
  have hs := SL.of_R h1
  obtain ⟨A, c, rfl⟩ := hs.is
  rw [keyB_length] at hs ⊢
  exact ⟨A, c, rfl, hs, h2⟩
/-! ### what is refused -/
theorem build_latest (A : Option Addr) (c : Nat) (m : List Int) (w : World) :
    Calls Tryz.prog 13 #[.slice A 32 c, .agg #[.int .u64 0, .slice none 0 0], .int .u64 18446744073709551615, .slice none 0 0] w fun e w' => e = .returned (.tuple #[.slice none 0 0, .agg #[.int .u64 0, .slice none 0 0], .int .i64 1]) ∧ Below w.heap.size w w' := by
  have B2 := Bk.at0 (w.alloc (.cells #[.int .u64 0, .slice none 0 0] 43)) 43 [.int .u64 0, .slice none 0 0] _ rfl
  have L0 : Below w.heap.size w ((w.alloc (.cells #[.int .u64 0, .slice none 0 0] 43)).alloc (.cells #[.int .u64 0, .slice none 0 0] 43)) := below_alloc (below_alloc (Below.refl _ _) _) _
  simp only [World.size_alloc] at B2
  replace B2 := Aside0.mk B2
  replace L0 := Aside0.mk L0
  go_enter Tryz.func13, Tryz.ntmps13
  go_wp2_with fail
  refine (right_none _ _).mono ?_
  rintro e w1 ⟨rfl, l1⟩
  have B4 := B2.out.below l1
  have L1 := Aside0.mk (below_then L0.out L0.out.size l1)
  have hd0 : w1.cell? ⟨w.heap.size + 1, 0, none⟩ = some (.int .u64 0) := B4.cell 0
  have hd1 : w1.cell? ⟨w.heap.size + 1, 1, none⟩ = some (.slice none 0 0) := B4.cell 1
  have hg0 := B4.frozen 0
  have hg1 := B4.frozen 1
  replace B4 := Aside0.mk B4
  clear l1 B2 L0
  go_wp2
  clear hd0 hd1 hg0 hg1
  have B9 := (B4.out.set 0 (.int .u64 0)).set 1 (.slice none 0 0)
  have L9 := below_set (below_set L1.out (Nat.le_succ _) 0 (.int .u64 0)) (Nat.le_succ _) 1 (.slice none 0 0)
  generalize (w1.setCell ⟨w.heap.size + 1, 0, none⟩ (.int .u64 0)).setCell ⟨w.heap.size + 1, 1, none⟩ (.slice none 0 0) = wx at B9 L9 ⊢
  have hc0 : wx.cell? ⟨w.heap.size + 1, 0, none⟩ = some (.int .u64 0) := B9.cell 0
  have hc1 : wx.cell? ⟨w.heap.size + 1, 1, none⟩ = some (.slice none 0 0) := B9.cell 1
  exact bodyPost_ret (v := .tuple #[.slice none 0 0, .agg #[.int .u64 0, .slice none 0 0], .int .i64 1]) (by simp [results, Tryz.results13, go_sem, hc0, hc1]) rfl ⟨rfl, L9⟩
theorem build_short (A : Option Addr) (n c : Nat) (w : World) (hn : n = 31) :
    Calls Tryz.prog 13 #[.slice A n c, .agg #[.int .u64 0, .slice none 0 0], .int .u64 1, .slice none 0 0] w fun e w' => e = .returned (.tuple #[.slice none 0 0, .agg #[.int .u64 0, .slice none 0 0], .int .i64 1]) ∧ Below w.heap.size w w' := by
  subst hn
  have B2 := Bk.at0 (w.alloc (.cells #[.int .u64 0, .slice none 0 0] 43)) 43 [.int .u64 0, .slice none 0 0] _ rfl
  have L0 : Below w.heap.size w ((w.alloc (.cells #[.int .u64 0, .slice none 0 0] 43)).alloc (.cells #[.int .u64 0, .slice none 0 0] 43)) := below_alloc (below_alloc (Below.refl _ _) _) _
  simp only [World.size_alloc] at B2
  have B4 := Aside0.mk B2
  have L1 := Aside0.mk L0
  clear B2 L0
  go_enter Tryz.func13, Tryz.ntmps13
  go_wp2
  have hc0 : ((w.alloc (.cells #[.int .u64 0, .slice none 0 0] 43)).alloc (.cells #[.int .u64 0, .slice none 0 0] 43)).cell? ⟨w.heap.size + 1, 0, none⟩ = some (.int .u64 0) := B4.out.cell 0
  have hc1 : ((w.alloc (.cells #[.int .u64 0, .slice none 0 0] 43)).alloc (.cells #[.int .u64 0, .slice none 0 0] 43)).cell? ⟨w.heap.size + 1, 1, none⟩ = some (.slice none 0 0) := B4.out.cell 1
  exact bodyPost_ret (v := .tuple #[.slice none 0 0, .agg #[.int .u64 0, .slice none 0 0], .int .i64 1]) (by simp [results, Tryz.results13, go_sem, hc0, hc1]) rfl ⟨rfl, L1.out⟩
theorem right_bad (A : Option Addr) (n c : Nat) (v : Int) (r : List Int) (w : World) (h : SL w (.slice A n c) r) (h0 : n = 7) :
    Calls Tryz.prog 31 #[.agg #[.int .u64 v, .slice A n c]] w fun e w' => e = .returned (.bool false) ∧ Below w.heap.size w w' := by
  obtain rfl := h.len
  refine archive_right.calls v A c r false w h.C h.cap ?_
  unfold archive_right.f
  rw [if_neg (by omega), h0]
  rfl
theorem build_root (A B : Option Addr) (c d : Nat) (r : List Int) (w : World) (hr : SL w (.slice B 7 d) r) :
    Calls Tryz.prog 13 #[.slice A 32 c, .agg #[.int .u64 0, .slice B 7 d], .int .u64 1, .slice none 0 0] w fun e w' => e = .returned (.tuple #[.slice none 0 0, .agg #[.int .u64 0, .slice none 0 0], .int .i64 1]) ∧ Below w.heap.size w w' := by
  have B2 := Bk.at0 (w.alloc (.cells #[.int .u64 0, .slice B 7 d] 43)) 43 [.int .u64 0, .slice none 0 0] _ rfl
  have L0 : Below w.heap.size w ((w.alloc (.cells #[.int .u64 0, .slice B 7 d] 43)).alloc (.cells #[.int .u64 0, .slice none 0 0] 43)) := below_alloc (below_alloc (Below.refl _ _) _) _
  simp only [World.size_alloc] at B2
  have HR := Aside0.mk (hr.below L0)
  replace B2 := Aside0.mk B2
  replace L0 := Aside0.mk L0
  clear hr
  go_enter Tryz.func13, Tryz.ntmps13
  go_wp2_with fail
  refine (right_bad B 7 d 0 r _ HR.out rfl).mono ?_
  rintro e w1 ⟨rfl, l1⟩
  have B4 := B2.out.below l1
  have L1 := Aside0.mk (below_then L0.out L0.out.size l1)
  have hd0 : w1.cell? ⟨w.heap.size + 1, 0, none⟩ = some (.int .u64 0) := B4.cell 0
  have hd1 : w1.cell? ⟨w.heap.size + 1, 1, none⟩ = some (.slice none 0 0) := B4.cell 1
  have hg0 := B4.frozen 0
  have hg1 := B4.frozen 1
  replace B4 := Aside0.mk B4
  clear l1 B2 L0 HR
  go_wp2
  clear hd0 hd1 hg0 hg1
  have B9 := (B4.out.set 0 (.int .u64 0)).set 1 (.slice none 0 0)
  have L9 := below_set (below_set L1.out (Nat.le_succ _) 0 (.int .u64 0)) (Nat.le_succ _) 1 (.slice none 0 0)
  generalize (w1.setCell ⟨w.heap.size + 1, 0, none⟩ (.int .u64 0)).setCell ⟨w.heap.size + 1, 1, none⟩ (.slice none 0 0) = wx at B9 L9 ⊢
  have hc0 : wx.cell? ⟨w.heap.size + 1, 0, none⟩ = some (.int .u64 0) := B9.cell 0
  have hc1 : wx.cell? ⟨w.heap.size + 1, 1, none⟩ = some (.slice none 0 0) := B9.cell 1
  exact bodyPost_ret (v := .tuple #[.slice none 0 0, .agg #[.int .u64 0, .slice none 0 0], .int .i64 1]) (by simp [results, Tryz.results13, go_sem, hc0, hc1]) rfl ⟨rfl, L9⟩
theorem tenant_long (A : Option Addr) (c : Nat) (m : List Int) (s : ByteArray) (w : World) (hA : SL w (.slice A 32 c) m) (hs : 64 < s.size) :
    Calls Tryz.prog 8 #[.slice A 32 c, .string s] w fun e w' => ∃ B d, e = .returned (.tuple #[.slice B 0 d, .int .i64 4]) ∧ Below w.heap.size w w' := by
  have hl := hA.len
  have hf : keys_Tenant.f m s = some ([], 4) := by
    unfold keys_Tenant.f keys_Derive.f
    rw [if_pos hl.symm, if_neg (by omega)]
    rfl
  rw [hl] at hA ⊢
  refine (keys_Tenant.calls A c m s _ _ w hA.C hA.cap hf).mono ?_
  rintro e w' ⟨v, rfl, h1, h2⟩
  obtain ⟨B, d, rfl⟩ := (SL.of_R h1).is
  exact ⟨B, d, rfl, h2⟩
theorem sealed_long (A : Option Addr) (c g : Nat) (m : List Int) (s : ByteArray) (w : World) (hA : SL w (.slice A 32 c) m) (hb : Bk w g 32 [.string s, .slice none 0 0]) (hs : 64 < s.size) :
    Calls Tryz.prog 33 #[.slice A 32 c, .int .u64 1, .slice (some ⟨g, 0, none⟩) 1 1] w fun e w' => e = .returned (.tuple #[.slice none 0 0, .slice none 0 0, .int .i64 4]) ∧ Below w.heap.size w w' := by
  have l0 : Below w.heap.size w (w.alloc (.cells #[.string s, .slice none 0 0] 32)) := below_alloc (Below.refl _ _) _
  have HA := Aside0.mk (hA.below l0)
  have HS := Aside0.mk hs
  have h0 : w.cell? ⟨g, 0, none⟩ = some (.string s) := hb.cell 0
  have h1 : w.cell? ⟨g, 1, none⟩ = some (.slice none 0 0) := hb.cell 1
  replace l0 := Aside0.mk l0
  clear hA hs hb
  go_enter Tryz.func33, Tryz.ntmps33
  go_wp2
  refine wp_loop_rounds 1 ?_
  rw [rounds_succ]
  go_wp2_with fail
  refine (tenant_long A c m s _ HA.out HS.out).mono ?_
  rintro e w1 ⟨B, d, rfl, l1⟩
  have L1 := Aside0.mk (below_then l0.out l0.out.size l1)
  clear l1 l0 HA
  go_wp2
  go_ret3
  exact ⟨rfl, L1.out⟩
theorem build_long (A : Option Addr) (c g : Nat) (m : List Int) (s : ByteArray) (w : World) (hA : SL w (.slice A 32 c) m) (hb : Bk w g 32 [.string s, .slice none 0 0]) (hs : 64 < s.size) :
    Calls Tryz.prog 13 #[.slice A 32 c, .agg #[.int .u64 0, .slice none 0 0], .int .u64 1, .slice (some ⟨g, 0, none⟩) 1 1] w fun e w' => e = .returned (.tuple #[.slice none 0 0, .agg #[.int .u64 0, .slice none 0 0], .int .i64 4]) ∧ Below w.heap.size w w' := by
  have B1 := (Bk.at0 w 43 [.int .u64 0, .slice none 0 0] _ rfl).alloc (.cells #[.int .u64 0, .slice none 0 0] 43)
  have B2 := Bk.at0 (w.alloc (.cells #[.int .u64 0, .slice none 0 0] 43)) 43 [.int .u64 0, .slice none 0 0] _ rfl
  have L0 : Below w.heap.size w ((w.alloc (.cells #[.int .u64 0, .slice none 0 0] 43)).alloc (.cells #[.int .u64 0, .slice none 0 0] 43)) := below_alloc (below_alloc (Below.refl _ _) _) _
  simp only [World.size_alloc] at B2
  have HA := Aside0.mk (hA.below L0)
  have H0 := Aside0.mk (hb.below L0)
  have HS := Aside0.mk hs
  replace B1 := Aside0.mk B1
  replace B2 := Aside0.mk B2
  replace L0 := Aside0.mk L0
  clear hA hs hb
  go_enter Tryz.func13, Tryz.ntmps13
  go_wp2_with fail
  refine (right_none _ _).mono ?_
  rintro e w1 ⟨rfl, l1⟩
  have B3 := B1.out.below l1
  have B4 := B2.out.below l1
  have A1 := Aside0.mk (HA.out.below l1)
  have G0 := Aside0.mk (H0.out.below l1)
  have L1 := Aside0.mk (below_then L0.out L0.out.size l1)
  have hc0 : w1.cell? ⟨w.heap.size, 0, none⟩ = some (.int .u64 0) := B3.cell 0
  have hc1 : w1.cell? ⟨w.heap.size, 1, none⟩ = some (.slice none 0 0) := B3.cell 1
  replace B3 := Aside0.mk B3
  replace B4 := Aside0.mk B4
  clear l1 B1 B2 HA L0 H0
  go_wp2_with fail
  refine (trusts_no _ _).mono ?_
  rintro e w2 ⟨rfl, l1⟩
  have B6 := Aside0.mk (B4.out.below l1)
  have A2 := Aside0.mk (A1.out.below l1)
  have K0 := Aside0.mk (G0.out.below l1)
  have L2 := Aside0.mk (below_then L1.out L1.out.size l1)
  clear l1 B3 B4 A1 L1 hc0 hc1 G0
  go_wp2_with fail
  refine (sealed_long A c g m s _ A2.out K0.out HS.out).mono ?_
  rintro e w3 ⟨rfl, l1⟩
  have B4 := B6.out.below l1
  have L1 := Aside0.mk (below_then L2.out L2.out.size l1)
  have hd0 : w3.cell? ⟨w.heap.size + 1, 0, none⟩ = some (.int .u64 0) := B4.cell 0
  have hd1 : w3.cell? ⟨w.heap.size + 1, 1, none⟩ = some (.slice none 0 0) := B4.cell 1
  have hg0 := B4.frozen 0
  have hg1 := B4.frozen 1
  replace B4 := Aside0.mk B4
  clear l1 B6 A2 K0 L2
  go_wp2
  clear hd0 hd1 hg0 hg1
  have B9 := (B4.out.set 0 (.int .u64 0)).set 1 (.slice none 0 0)
  have L9 := below_set (below_set L1.out (Nat.le_succ _) 0 (.int .u64 0)) (Nat.le_succ _) 1 (.slice none 0 0)
  generalize (w3.setCell ⟨w.heap.size + 1, 0, none⟩ (.int .u64 0)).setCell ⟨w.heap.size + 1, 1, none⟩ (.slice none 0 0) = wx at B9 L9 ⊢
  have hc0 : wx.cell? ⟨w.heap.size + 1, 0, none⟩ = some (.int .u64 0) := B9.cell 0
  have hc1 : wx.cell? ⟨w.heap.size + 1, 1, none⟩ = some (.slice none 0 0) := B9.cell 1
  exact bodyPost_ret (v := .tuple #[.slice none 0 0, .agg #[.int .u64 0, .slice none 0 0], .int .i64 4]) (by simp [results, Tryz.results13, go_sem, hc0, hc1]) rfl ⟨rfl, L9⟩
end Go.Proofs.YtkennblgbfhjiaaGreatDoor.Q
