/- An archive of nothing, built. -/
import Derived.Test.YtkennblgbfhjiaaGreatDoorTsplit
namespace Go.Proofs.YtkennblgbfhjiaaGreatDoor.Q
open Go.RowKit Go.Proofs.YtkennblgbfhjiaaGreatDoorW.PrintWords Go.Proofs.YtkennblgbfhjiaaGreatDoorW.PrintLast Go.Proofs.YtkennblgbfhjiaaGreatDoorW.PrintMore Go.Proofs.YtkennblgbfhjiaaGreatDoor.F Go.Proofs.YtkennblgbfhjiaaGreatDoor.H
set_option linter.unusedVariables false
set_option linter.unusedSimpArgs false
theorem right_none (v : Int) (w : World) : Calls Tryz.prog 31 #[.agg #[.int .u64 v, .slice none 0 0]] w fun e w' => e = .returned (.bool true) ∧ Below w.heap.size w w' :=
  archive_right.calls v none 0 [] true w (Kd.C_nil _ _) (Nat.le_refl _) rfl
theorem trusts_no (v : Int) (w : World) : Calls Tryz.prog 32 #[.agg #[.int .u64 v, .slice none 0 0]] w fun e w' => e = .returned (.bool false) ∧ Below w.heap.size w w' :=
  archive_trusts.calls v none 0 [] false w (Kd.C_nil _ _) (Nat.le_refl _) rfl
theorem block_g (l : List Int) (h : l.length < 128) : cursor_Block.f 1 l = some ((l.length : Int) :: l) := by
  have e1 : IntKind.u64.wrap (l.length : Int) = (l.length : Int) := F.wu64 (by omega) (by omega)
  have e2 : ¬ (l.length : Int) ≥ 128 := by omega
  have e3 : (l.length : Int) % 256 = (l.length : Int) := by omega
  simp only [cursor_Block.f, varint_Append.f, varint_Append.l0, varint_with.f, slices_Clone_byte_byte.f, e1, e3, if_neg e2]
  rw [if_pos (by decide)]
  simp only [Option.bind_some, List.length_nil, List.length_cons, List.nil_append]
  rw [if_pos (by decide)]
  simp only [Option.bind_some, List.length_cons, List.length_nil]
  rw [if_pos (by omega)]
  rfl
def zeros32 : List Int := List.replicate 32 0
theorem shaW_32 : (shaW []).length = 32 := shaW_length _
set_option maxHeartbeats 4000000 in
set_option maxRecDepth 100000 in
theorem build_none (A : Option Addr) (c : Nat) (m : List Int) (w : World) (hA : SL w (.slice A 32 c) m) :
    Calls Tryz.prog 13 #[.slice A 32 c, .agg #[.int .u64 0, .slice none 0 0], .int .u64 1, .slice none 0 0] w fun e w' => ∃ v vr, e = .returned (.tuple #[v, .agg #[.int .u64 1, vr], .int .i64 0]) ∧ SL w' v (110 :: signB m zeros32 (shaW [])) ∧ SL w' vr (shaW []) ∧ Below w.heap.size w w' := by
  have hmk : ∀ w : World, (Instr.makeSlice 25 (.int .i64 32) (.int .i64 32)).run Tryz.prog w = .ok (.slice (some ⟨w.heap.size, 0, none⟩) 32 32) (w.alloc (.cells (nums .u8 (List.replicate 32 0)).toArray 5)) := fun _ => by kernel_rfl
  have B1 := (Bk.at0 w 43 [.int .u64 0, .slice none 0 0] _ rfl).alloc (.cells #[.int .u64 0, .slice none 0 0] 43)
  have B2 := Bk.at0 (w.alloc (.cells #[.int .u64 0, .slice none 0 0] 43)) 43 [.int .u64 0, .slice none 0 0] _ rfl
  have L0 : Below w.heap.size w ((w.alloc (.cells #[.int .u64 0, .slice none 0 0] 43)).alloc (.cells #[.int .u64 0, .slice none 0 0] 43)) := below_alloc (below_alloc (Below.refl _ _) _) _
  simp only [World.size_alloc] at B2
  have HA := Aside0.mk (hA.below L0)
  replace B1 := Aside0.mk B1
  replace B2 := Aside0.mk B2
  replace L0 := Aside0.mk L0
  clear hA
  go_enter Tryz.func13, Tryz.ntmps13
  go_wp2_with fail
  refine (right_none _ _).mono ?_
  rintro e w1 ⟨rfl, l1⟩
  have B3 := B1.out.below l1
  have B4 := B2.out.below l1
  have A1 := Aside0.mk (HA.out.below l1)
  have L1 := Aside0.mk (below_then L0.out L0.out.size l1)
  have hc0 : w1.cell? ⟨w.heap.size, 0, none⟩ = some (.int .u64 0) := B3.cell 0
  have hc1 : w1.cell? ⟨w.heap.size, 1, none⟩ = some (.slice none 0 0) := B3.cell 1
  replace B3 := Aside0.mk B3
  replace B4 := Aside0.mk B4
  clear l1 B1 B2 HA L0
  go_wp2_with fail
  refine (trusts_no _ _).mono ?_
  rintro e w2 ⟨rfl, l1⟩
  have B5 := Aside0.mk (B3.out.below l1)
  have B6 := Aside0.mk (B4.out.below l1)
  have A2 := Aside0.mk (A1.out.below l1)
  have L2 := Aside0.mk (below_then L1.out L1.out.size l1)
  clear l1 B3 B4 A1 L1 hc0 hc1
  go_wp2_with fail
  refine (sealed_none _ _ _ _ _).mono ?_
  rintro e w3 ⟨rfl, hw⟩
  subst hw
  have hc0 : w3.cell? ⟨w.heap.size, 0, none⟩ = some (.int .u64 0) := B5.out.cell 0
  have hc1 : w3.cell? ⟨w.heap.size, 1, none⟩ = some (.slice none 0 0) := B5.out.cell 1
  go_wp2_with fail
  refine (clone_any none 0 0 [] _ (SL.nil _) (by decide)).mono ?_
  rintro e w4 ⟨vn, rfl, sn, l1⟩
  have B7 := B5.out.below l1
  have B8 := Aside0.mk (B6.out.below l1)
  have A3 := Aside0.mk (A2.out.below l1)
  have L3 := Aside0.mk (below_then L2.out L2.out.size l1)
  clear hc0 hc1
  obtain ⟨An, cn, rfl⟩ := sn.is
  replace B7 := Aside0.mk B7
  clear l1 sn B5 B6 A2 L2
  go_wp2_with fail
  refine (rootof_none _).mono ?_
  rintro e w5 ⟨vr, rfl, sr, l1⟩
  have B9 := B7.out.below l1
  have Ba := Aside0.mk (B8.out.below l1)
  have A4 := Aside0.mk (A3.out.below l1)
  have L4 := Aside0.mk (below_then L3.out L3.out.size l1)
  have R4 := Aside0.mk sr
  obtain ⟨Ar, cr, rfl⟩ := sr.is
  rw [shaW_32] at R4 ⊢
  have hlt := B9.lt
  have hc0 : w5.cell? ⟨w.heap.size, 0, none⟩ = some (.int .u64 0) := B9.cell 0
  have hc1 : w5.cell? ⟨w.heap.size, 1, none⟩ = some (.slice none 0 0) := B9.cell 1
  replace B9 := Aside0.mk B9
  clear l1 sr B7 B8 A3 L3
  go_wp2_with fail
  have l2 : Below w5.heap.size w5 (w5.alloc (.cells #[.int .u64 1, .slice An 0 cn, .slice none 0 0, .slice Ar 32 cr] 74)) := below_alloc (Below.refl _ _) _
  have M5 := Bk.at0 w5 74 [.int .u64 1, .slice An 0 cn, .slice none 0 0, .slice Ar 32 cr] _ rfl
  have Bb := Ba.out.below l2
  have A5 := A4.out.below l2
  have R5 := R4.out.below l2
  have L5 := below_then L4.out L4.out.size l2
  obtain ⟨mb, hmb⟩ : ∃ mb, mb = w5.heap.size := ⟨_, rfl⟩
  have hmw : w.heap.size + 1 < mb := by have := Ba.out.lt; omega
  rw [← hmb] at M5 ⊢
  generalize w5.alloc (.cells #[.int .u64 1, .slice An 0 cn, .slice none 0 0, .slice Ar 32 cr] 74) = w6 at M5 Bb A5 R5 L5 ⊢
  replace M5 := Aside0.mk M5
  replace Bb := Aside0.mk Bb
  replace A5 := Aside0.mk A5
  replace R5 := Aside0.mk R5
  replace L5 := Aside0.mk L5
  clear l2 hc0 hc1 B9 Ba A4 R4 L4 hlt hmb
  refine (trusts_no _ _).mono ?_
  rintro e w7 ⟨rfl, l1⟩
  have M6 := M5.out.below l1
  have Bc := Bb.out.below l1
  have A6 := A5.out.below l1
  have R6 := R5.out.below l1
  have L6 := below_then L5.out L5.out.size l1
  have hlm := M6.lt
  have hc1 : w7.cell? ⟨mb, 1, none⟩ = some (.slice An 0 cn) := M6.cell 1
  have hf1 := M6.frozen 1
  have hc0 : w7.cell? ⟨mb, 0, none⟩ = some (.int .u64 1) := M6.cell 0
  have hc2 : w7.cell? ⟨mb, 2, none⟩ = some (.slice none 0 0) := M6.cell 2
  have hc3 : w7.cell? ⟨mb, 3, none⟩ = some (.slice Ar 32 cr) := M6.cell 3
  replace M6 := Aside0.mk M6
  replace Bc := Aside0.mk Bc
  replace A6 := Aside0.mk A6
  replace R6 := Aside0.mk R6
  replace L6 := Aside0.mk L6
  clear l1 M5 Bb A5 R5 L5
  go_wp2_with fail
  clear hc0 hc1 hc2 hc3 hf1 hmk
  have hw := grown_set w7 mb 1 (.slice (some ⟨w7.heap.size, 0, none⟩) 32 32)
  have hn : NoByte [Value.int .u64 1, .slice An 0 cn, .slice none 0 0, .slice Ar 32 cr] := fun u hu x e => by subst e; simp at hu
  have A7 := A6.out.keepB M6.out hn hw
  have R7 := R6.out.keepB M6.out hn hw
  have M7 := M6.out.set 1 (.slice (some ⟨w7.heap.size, 0, none⟩) 32 32)
  have Bd := Bc.out.far (a := ⟨mb, 1, none⟩) (by show w.heap.size + 1 ≠ mb; omega) (.slice (some ⟨w7.heap.size, 0, none⟩) 32 32)
  have L7 := L6.out.grown hw L6.out.size (fun k e => by have := Option.some.inj e; omega)
  have hsz : (w7.setCell ⟨mb, 1, none⟩ (.slice (some ⟨w7.heap.size, 0, none⟩) 32 32)).heap.size = w7.heap.size := World.size_setCell _ _ _
  obtain ⟨zb, hzb⟩ : ∃ zb, zb = w7.heap.size := ⟨_, rfl⟩
  rw [← hzb] at A7 R7 M7 Bd L7 hsz ⊢
  generalize w7.setCell ⟨mb, 1, none⟩ (.slice (some ⟨zb, 0, none⟩) 32 32) = w8 at A7 R7 M7 Bd L7 hsz ⊢
  have l3 : Below w8.heap.size w8 (w8.alloc (.cells (nums .u8 (List.replicate 32 0)).toArray 5)) := below_alloc (Below.refl _ _) _
  have Z0 := Own.of_blk (base := w8.heap.size) (Blk.at0 w8 5 .u8 (List.replicate 32 0) _ rfl) (Nat.le_refl _) (by decide)
  have Z8 : SL (w8.alloc (.cells (nums .u8 (List.replicate 32 0)).toArray 5)) (.slice (some ⟨zb, 0, none⟩) 32 32) zeros32 := by
    have := SL.of_R Z0.toR
    rw [hsz] at this
    exact this
  have A8 := A7.below l3
  have R8 := R7.below l3
  have M8 := M7.below l3
  have Be := Bd.below l3
  have L8 := below_then L7 L7.size l3
  change Calls _ _ _ (w8.alloc (.cells (nums .u8 (List.replicate 32 0)).toArray 5)) _
  generalize w8.alloc (.cells (nums .u8 (List.replicate 32 0)).toArray 5) = w9 at A8 R8 M8 Be L8 Z8 ⊢
  replace A8 := Aside0.mk A8
  replace M8 := Aside0.mk M8
  replace Be := Aside0.mk Be
  replace L8 := Aside0.mk L8
  have hlz : zb = zb := rfl
  clear l3 Z0 A7 R7 M7 Bd L7 hn hw A6 R6 M6 Bc L6 hsz hlm hlz
  refine (msign_any A c m _ _ zeros32 (shaW []) _ A8.out Z8 R8 rfl shaW_32).mono ?_
  rintro e wa ⟨vs, rfl, ss, l1⟩
  have Ma := M8.out.below l1
  have Bf := Aside0.mk (Be.out.below l1)
  have La := Aside0.mk (below_then L8.out L8.out.size l1)
  have Ra := Aside0.mk (R8.below l1)
  have HL := Aside0.mk (signB_length m zeros32 (shaW []) rfl shaW_32)
  obtain ⟨As, cs, rfl⟩ := ss.is
  have Sa := Aside0.mk ss
  replace Ma := Aside0.mk Ma
  clear l1 ss R8 Z8 A8 M8 Be L8
  go_wp2_with fail
  refine (cursor_Block.calls 1 As cs _ _ _ Sa.out.C Sa.out.cap (block_g _ (by rw [HL.out]; decide))).mono ?_
  rintro e wb ⟨v, rfl, h1, h2⟩
  have Ob := Aside0.mk (Own.ofR h1)
  have Lb := Aside0.mk h2
  have hza := La.out.size
  have hzb' := h2.size
  clear h1 h2 Sa
  go_wp2_with fail
  refine (concat_none _).mono ?_
  rintro e wc ⟨rfl, hw⟩
  subst hw
  go_wp2_with (at_builtin; refine app_any (k := .u8) (l := ((signB m zeros32 (shaW [])).length : Int) :: signB m zeros32 (shaW [])) (base := wa.heap.size) (e := 5) (A := none) (c := 0) (m := 0) rfl _ _ 25 rfl Tryz.underlying25 1 info5 _ [] rfl Ob.out rfl (Kd.C_nil _ _) (by decide) (by rw [List.length_cons, HL.out]; decide) hzb' ?_; intro v6 w6 h1 h2 h3; have L6 := Lb.out.grown h2 hzb' (own_base Ob.out.out); have O6 := Aside0.mk h1; clear h1 h2 h3)
  have Md := Ma.out.below L6
  have Bh := Bf.out.below L6
  have Rd := Aside0.mk (Ra.out.below L6)
  have Ld := Aside0.mk (below_then La.out hza L6)
  have hc3 : w6.cell? ⟨mb, 3, none⟩ = some (.slice Ar 32 cr) := Md.cell 3
  have hd0 : w6.cell? ⟨w.heap.size + 1, 0, none⟩ = some (.int .u64 0) := Bh.cell 0
  have hd1 : w6.cell? ⟨w.heap.size + 1, 1, none⟩ = some (.slice none 0 0) := Bh.cell 1
  have hg0 := Bh.frozen 0
  have hg1 := Bh.frozen 1
  replace Md := Aside0.mk Md
  replace Bh := Aside0.mk Bh
  clear L6 Lb Ob Ma Bf Ra La hzb' hza
  go_region
  go_wp2
  clear hc3 hd0 hd1 hg0 hg1
  have hw := grown_trans (grown_set w6 (w.heap.size + 1) 0 (.int .u64 1)) (grown_set _ (w.heap.size + 1) 1 (.slice Ar 32 cr))
  have hn : NoByte [Value.int .u64 0, .slice none 0 0] := fun u hu x e => by subst e; simp at hu
  have B9 := (Bh.out.set 0 (.int .u64 1)).set 1 (.slice Ar 32 cr)
  have L9 := Ld.out.grown hw Ld.out.size (fun k e => by have := Option.some.inj e; omega)
  have R9 := Rd.out.keepB Bh.out hn hw
  have S9 := (SL.of_R O6.out.toR).keepB Bh.out hn hw
  rw [List.append_nil, HL.out] at S9
  generalize (w6.setCell ⟨w.heap.size + 1, 0, none⟩ (.int .u64 1)).setCell ⟨w.heap.size + 1, 1, none⟩ (.slice Ar 32 cr) = wx at B9 L9 R9 S9 ⊢
  have lx : Below wx.heap.size wx wx.drew := below_drew (Below.refl _ _)
  have Ba := B9.below lx
  have hc0 : wx.drew.cell? ⟨w.heap.size + 1, 0, none⟩ = some (.int .u64 1) := Ba.cell 0
  have hc1 : wx.drew.cell? ⟨w.heap.size + 1, 1, none⟩ = some (.slice Ar 32 cr) := Ba.cell 1
  have Ra := R9.below lx
  have Sa := S9.below lx
  have La := below_then L9 L9.size lx
  generalize wx.drew = wy at hc0 hc1 Ra Sa La ⊢
  exact bodyPost_ret (v := .tuple #[v6, .agg #[.int .u64 1, .slice Ar 32 cr], .int .i64 0]) (by simp [results, Tryz.results13, go_sem, hc0, hc1]) rfl ⟨_, _, rfl, Sa, Ra, La⟩
end Go.Proofs.YtkennblgbfhjiaaGreatDoor.Q
