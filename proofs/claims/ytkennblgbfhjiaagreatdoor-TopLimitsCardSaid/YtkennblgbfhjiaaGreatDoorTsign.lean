/- A manifest without entries, signed; and its signature, checked. -/
import Derived.Test.YtkennblgbfhjiaaGreatDoorTenc
import Derived.Lib.SliceRun
namespace Go.Proofs.YtkennblgbfhjiaaGreatDoor.Q
open Go.RowKit Go.Proofs.YtkennblgbfhjiaaGreatDoorW.PrintWords Go.Proofs.YtkennblgbfhjiaaGreatDoorW.PrintLast Go.Proofs.YtkennblgbfhjiaaGreatDoorW.PrintMore Go.Proofs.YtkennblgbfhjiaaGreatDoor.F Go.Proofs.YtkennblgbfhjiaaGreatDoor.H
set_option linter.unusedVariables false
set_option linter.unusedSimpArgs false
theorem bclone_any (A : Option Addr) (n c : Nat) (l : List Int) (w : World) (h : SL w (.slice A n c) l) (h0 : 0 < l.length) (hm : l.length ≤ 1000) :
    Calls Tryz.prog 88 #[.slice A n c] w fun e w' => ∃ v, e = .returned v ∧ H.Own w' w.heap.size 5 .u8 v l ∧ Below w.heap.size w w' := by
  obtain ⟨a, rfl, _⟩ := h.cell h0
  have hn := h.len
  have H := Aside0.mk h
  have HN := Aside0.mk hn
  have HM := Aside0.mk hm
  have qT : ∀ (w : World) (a : Option Addr) (n c n' c' : Nat), (binOp .eql 25 (.slice a n c) (.slice none n' c')).run Tryz.prog w = .ok (.bool a.isNone) w := fun w a n c n' c' => Lib.run_eql_slice_nil w _ _ a n c n' c' Tryz.underlying25
  clear h hn h0 hm
  have B0 := Blk.at0 w 5 .u8 [] #[] rfl
  have O0 := Aside0.mk (Own.of_blk (base := w.heap.size) B0 (Nat.le_refl _) (by decide))
  have L0 := Aside0.mk ((Below.refl w.heap.size w).alloc (Nat.le_refl _) (.cells #[] 5))
  clear B0
  go_enter Tryz.func88, Tryz.ntmps88
  go_wp2_with (at_builtin; refine app_any (k := .u8) (l := []) (base := w.heap.size) (e := 5) (A := some a) (c := c) (m := n) rfl _ _ 25 rfl Tryz.underlying25 1 info5 _ l rfl O0.out rfl (H.out.below L0.out).C (by decide) (by have := HN.out; have := HM.out; simp; omega) L0.out.size ?_; intro v1 w1 h1 h2 h3; have L1 := Aside0.mk (L0.out.grown h2 L0.out.size (own_base O0.out.out)); have O1 := Aside0.mk h1; clear h1 h2 h3)
  go_ret
  exact ⟨_, rfl, O1.out, L1.out⟩
/-- The key by which manifests are signed. -/
def kM (m : List Int) : List Int := macW m [keyText 4 ⟨#[]⟩ ++ [1]]
theorem kM_length (m : List Int) : (kM m).length = 32 := mac_len _ _
theorem keyM_any (A : Option Addr) (c : Nat) (m : List Int) (w : World) (h : SL w (.slice A 32 c) m) :
    Calls Tryz.prog 86 #[.slice A 32 c] w fun e w' => ∃ v, e = .returned (.tuple #[v, .int .i64 0]) ∧ SL w' v (kM m) ∧ Below w.heap.size w w' := by
  have hl := h.len
  have hf : keys_Manifest.f m = some (kM m, 0) := by
    unfold keys_Manifest.f keys_Derive.f
    rw [if_pos hl.symm, if_pos (by decide)]
    rfl
  rw [hl] at h ⊢
  refine (keys_Manifest.calls A c m _ _ w h.C h.cap hf).mono ?_
  rintro e w' ⟨v, rfl, h1, h2⟩
  exact ⟨v, rfl, .of_R h1, h2⟩
theorem mac_any' (A B : Option Addr) (n c m d : Nat) (k b : List Int) (w : World) (hk : SL w (.slice A n c) k) (hb : SL w (.slice B m d) b) (lk : k.length ≤ 1000) (lb : b.length ≤ 1000) :
    Calls Tryz.prog 89 #[.slice A n c, .slice B m d] w fun e w' => ∃ v, e = .returned v ∧ SL w' v (macW k [b]) ∧ Below w.heap.size w w' := by
  obtain rfl := hk.len
  obtain rfl := hb.len
  refine (hmac_MAC.calls A c k B d b _ w hk.C hk.cap hb.C hb.cap (mac_f k b (by omega) (by omega))).mono ?_
  rintro e w' ⟨v, rfl, h1, h2⟩
  exact ⟨v, rfl, .of_R h1, h2⟩
theorem manB_length (v p r : List Int) (hv : v.length = 8) (hp : p.length = 32) (hr : r.length = 32) : (manB v p r).length = 78 := by simp [manB, hv, hp, hr]
/-- What is signed, and its signature. -/
def signB (m p r : List Int) : List Int := manB (fixN 1 8 8) p r ++ macW (kM m) [manB (fixN 1 8 8) p r]
theorem signB_length (m p r : List Int) (hp : p.length = 32) (hr : r.length = 32) : (signB m p r).length = 110 := by
  rw [signB, List.length_append, manB_length _ p r (fixN_length 1 8 8) hp hr, mac_len]
set_option maxHeartbeats 1000000 in
theorem msign_any (A : Option Addr) (c : Nat) (m : List Int) (vp vr : Value) (p r : List Int) (w : World) (hA : SL w (.slice A 32 c) m) (hp : SL w vp p) (hr : SL w vr r) (lp : p.length = 32) (lr : r.length = 32) :
    Calls Tryz.prog 36 #[.slice A 32 c, .agg #[.int .u64 1, vp, .slice none 0 0, vr]] w fun e w' => ∃ v, e = .returned (.tuple #[v, .int .i64 0]) ∧ SL w' v (signB m p r) ∧ Below w.heap.size w w' := by
  obtain ⟨Ap, cp, rfl⟩ := hp.is
  obtain ⟨Ar, cr, rfl⟩ := hr.is
  rw [lp] at hp ⊢
  rw [lr] at hr ⊢
  have L1 := (Below.refl w.heap.size w).alloc (Nat.le_refl _) (.cells #[.int .u64 1, .slice Ap 32 cp, .slice none 0 0, .slice Ar 32 cr] 74)
  have B1 := Bk.at0 w 74 [.int .u64 1, .slice Ap 32 cp, .slice none 0 0, .slice Ar 32 cr] _ rfl
  have HA := Aside0.mk (hA.below L1)
  have HP := Aside0.mk (hp.below L1)
  have HR := Aside0.mk (hr.below L1)
  have LP := Aside0.mk lp
  have LR := Aside0.mk lr
  replace L1 := Aside0.mk L1
  replace B1 := Aside0.mk B1
  clear hA hp hr lp lr
  go_enter Tryz.func36, Tryz.ntmps36
  go_wp2_with fail
  refine (keyM_any A c m _ HA.out).mono ?_
  rintro e w2 ⟨vk, rfl, hk, l1⟩
  have K2 := Aside0.mk hk
  have P2 := Aside0.mk (HP.out.below l1)
  have R2 := Aside0.mk (HR.out.below l1)
  have L2 := Aside0.mk (below_then L1.out L1.out.size l1)
  have B2 := Aside0.mk (B1.out.below l1)
  obtain ⟨Ak, ck, rfl⟩ := hk.is
  have hc0 : w2.cell? ⟨w.heap.size, 0, none⟩ = some (.int .u64 1) := B2.out.cell 0
  have hc1 : w2.cell? ⟨w.heap.size, 1, none⟩ = some (.slice Ap 32 cp) := B2.out.cell 1
  have hc2 : w2.cell? ⟨w.heap.size, 2, none⟩ = some (.slice none 0 0) := B2.out.cell 2
  have hc3 : w2.cell? ⟨w.heap.size, 3, none⟩ = some (.slice Ar 32 cr) := B2.out.cell 3
  clear hk l1 HA HP HR L1 B1 B2
  go_wp2_with fail
  refine (mencode_any _ _ p r _ P2.out R2.out LP.out LR.out).mono ?_
  rintro e w3 ⟨ve, rfl, he, l1⟩
  have K3 := Aside0.mk (K2.out.below l1)
  have L3 := Aside0.mk (below_then L2.out L2.out.size l1)
  have E3 := Aside0.mk he
  obtain ⟨Ae, ce, rfl⟩ := he.is
  have HL := Aside0.mk (manB_length (fixN 1 8 8) p r (fixN_length 1 8 8) LP.out LR.out)
  have HK := Aside0.mk (kM_length m)
  clear he l1 hc0 hc1 hc2 hc3 K2 P2 R2 L2
  go_wp2_with fail
  refine (bclone_any Ae _ ce _ _ E3.out (by rw [HL.out]; omega) (by rw [HL.out]; omega)).mono ?_
  rintro e w4 ⟨v4, rfl, o4, l1⟩
  have O4 := Aside0.mk o4
  have K4 := Aside0.mk (K3.out.below l1)
  have E4 := Aside0.mk (E3.out.below l1)
  have L4 := Aside0.mk (below_then L3.out L3.out.size l1)
  have hz := L3.out.size
  have hz3 := l1.size
  clear o4 l1 K3 E3 L3
  go_wp2_with fail
  refine (mac_any' Ak Ae _ ck _ ce _ _ _ K4.out E4.out (by rw [HK.out]; omega) (by rw [HL.out]; omega)).mono ?_
  rintro e w5 ⟨v5, rfl, m5, l1⟩
  have M5 := Aside0.mk m5
  have O5 := Aside0.mk (own_below O4.out l1)
  have L5 := Aside0.mk (below_then L4.out L4.out.size l1)
  have hz5 := Nat.le_trans hz3 l1.size
  obtain ⟨Am, cm, rfl⟩ := m5.is
  have HM := Aside0.mk (mac_len (kM m) (manB (fixN 1 8 8) p r))
  clear m5 l1 O4 K4 E4 L4
  go_wp2_with (at_builtin; refine app_any (k := .u8) (l := manB (fixN 1 8 8) p r) (base := w3.heap.size) (e := 5) (A := Am) (c := cm) (m := (macW (kM m) [manB (fixN 1 8 8) p r]).length) rfl _ _ 25 rfl Tryz.underlying25 1 info5 _ (macW (kM m) [manB (fixN 1 8 8) p r]) rfl O5.out rfl M5.out.C (by decide) (by rw [HL.out, HM.out]; decide) hz5 ?_; intro v6 w6 h1 h2 h3; have L6 := Aside0.mk (L5.out.grown h2 L5.out.size (own_base (O5.out.lower hz).out)); have O6 := Aside0.mk h1; clear h1 h2 h3)
  go_ret2
  exact ⟨_, rfl, .of_R O6.out.toR, L6.out⟩
end Go.Proofs.YtkennblgbfhjiaaGreatDoor.Q
