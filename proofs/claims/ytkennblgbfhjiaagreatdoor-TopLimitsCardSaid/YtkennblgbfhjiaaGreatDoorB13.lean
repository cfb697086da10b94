/- What the calls of hmac.pieces, of the function that it hands back, and of hmac.Expand answer: the first bytes of the tags of the tags; nothing below the memory that they make is turned. -/
import Derived.Test.YtkennblgbfhjiaaGreatDoorB11
import Derived.Test.YtkennblgbfhjiaaGreatDoorRng
import Derived.Lib.SmallJoins
import Derived.Shelf.Abstract
import Derived.OwnWalkIn
import Derived.Maps.OwnIn
import Derived.TacticsInMore
import Derived.LoopNIn
import Derived.LoopIn
namespace Go.Proofs.YtkennblgbfhjiaaGreatDoor.Q
open Go.RowKit Go.Shelf Go.Joins Go.Proofs.YtkennblgbfhjiaaGreatDoorW.PrintWords Go.Proofs.YtkennblgbfhjiaaGreatDoorW.PrintLast Go.Proofs.YtkennblgbfhjiaaGreatDoorW.PrintMore Go.Proofs.YtkennblgbfhjiaaGreatDoor.H
set_option linter.unusedVariables false
set_option linter.unusedSimpArgs false
attribute [local go_sem] Oper.semAt_some
theorem tagN_length (key info : List Int) (i : Nat) : (tagN key info (i + 1)).length = 32 := macW_length _ _
theorem tagN_le (key info : List Int) : ∀ i, (tagN key info i).length ≤ 32
  | 0 => by simp [tagN]
  | i + 1 => by rw [tagN_length]; omega
theorem expN_length (key info : List Int) : ∀ i, (expN key info i).length = 32 * i
  | 0 => rfl
  | i + 1 => by rw [expN, List.length_append, expN_length key info i, tagN_length]; omega
theorem expN_more' (key info : List Int) (i : Nat) : ∀ m, (expN key info (i + m)).take (32 * i) = expN key info i
  | 0 => List.take_of_length_le (by rw [expN_length]; omega)
  | m + 1 => by
    rw [← Nat.add_assoc, expN, List.take_append_of_le_length (by rw [expN_length]; omega), expN_more' key info i m]
theorem expN_take' (key info : List Int) (i n : Nat) (hi : i ≤ 255) (hn : n ≤ 32 * i) : (expN key info i).take n = (expN key info 255).take n := by
  rw [← expN_more' key info i (255 - i), List.take_take, Nat.min_eq_left hn, Nat.add_sub_cancel' hi]
/-- A slice of bytes that can be read. -/
structure Rdl (w : World) (v : Value) (l : List Int) : Prop where mk ::
  out : ∃ A c, v = .slice A l.length c ∧ l.length ≤ c ∧ Kd.C (Kd.int .u8) w A l.length l
theorem Rdl.below {w w' : World} {v : Value} {l : List Int} (h : Rdl w v l) (hb : Below w.heap.size w w') : Rdl w' v l := by
  obtain ⟨A, c, hv, hc, hr⟩ := h
  exact ⟨A, c, hv, hc, Kd.C_below hr hb⟩
/-- A literal's bytes. -/
theorem lit_readsC0 (w : World) (l : List Int) (t : TypeId) (fr : Nat × Nat) (hl : l.length ≤ 9223372036854775807) : Kd.C (Kd.int .u8) (w.alloc (.cells (nums .u8 l).toArray t fr)) (some ⟨w.heap.size, 0, none⟩) l.length l := by
  refine Kd.C_of_reads (enc := Value.int .u8) (d := (0 : Int)) (h1 := fun _ => rfl) ⟨rfl, hl, fun _ => ⟨_, rfl, fun j hj => ?_⟩⟩
  rw [Addr.add_mid, Nat.zero_add, cell_alloc_mark_at w _ t fr _ j rfl]
  simp [nums, List.getD_eq_getElem?_getD, hj]
theorem nums_app (k : IntKind) (l m : List Int) : nums k (l ++ m) = nums k l ++ nums k m := by simp [nums]
theorem own_turn {w w' : World} {b e : Nat} {k : IntKind} {v : Value} {l : List Int} {row : Option Nat} (h : H.Own w b e k v l) (hg : w.grownBy w' row) (hr : ∀ r, row = some r → ∃ o : Obj, w.heap[r]? = some o ∧ o.isCells = false) : H.Own w' b e k v l := by
  refine h.grown hg ?_
  rcases h.out.2 with ⟨rfl, _⟩ | ⟨g, cap, cur, rfl, _, hgb, _⟩
  · exact .inl rfl
  · refine .inr fun e' => ?_
    obtain ⟨o, ho, hc⟩ := hr g (by simpa [Value.ownBlock] using e'.symm)
    rw [hgb] at ho
    cases ho
    cases hc
theorem boxed_turn {w w' : World} {b t : Nat} {v : Value} {row : Option Nat} (h : Boxed w b t v) (hg : w.grownBy w' row) (hr : ∀ r, row = some r → ∃ o : Obj, w.heap[r]? = some o ∧ o.isCells = false) : Boxed w' b t v := h.kept hg (fun e' => by
  obtain ⟨o, ho, hc⟩ := hr b e'.symm
  rw [show w.heap[b]? = _ from h] at ho
  cases ho
  cases hc)
theorem C_turn {w w' : World} {k : IntKind} {A : Option Addr} {l : List Int} {row : Option Nat} (h : Kd.C (Kd.int k) w A l.length l) (hg : w.grownBy w' row) (hr : ∀ r, row = some r → ∃ o : Obj, w.heap[r]? = some o ∧ o.isCells = false) : Kd.C (Kd.int k) w' A l.length l := by
  refine C_grown h hg ?_
  by_cases hn : l.length = 0
  · exact .inl hn
  · right
    intro ad e1 e2
    obtain ⟨ad', e3, hx⟩ := Kd.at_int h 0 (by omega) (by omega)
    rw [e1] at e3
    cases e3
    obtain ⟨o, ho, hc⟩ := cells_of_cell hx
    obtain ⟨o', ho', hc'⟩ := hr ad.block e2.symm
    have ho2 : w.heap[ad.block]? = some o := ho
    rw [ho2] at ho'
    cases ho'
    rw [hc] at hc'
    cases hc'
theorem boxed_below {w w' : World} {b t : Nat} {v : Value} (h : Boxed w b t v) (hb : Below w.heap.size w w') : Boxed w' b t v := (hb.block b h.lt).trans h
/-- What the iterator holds: the two slices that it caught, in their boxes. -/
structure Kept (bk bi : Nat) (A0 : Option Addr) (c0 : Nat) (key : List Int) (A1 : Option Addr) (c1 : Nat) (info : List Int) (w : World) : Prop where
  k : Boxed w bk 25 (.slice A0 key.length c0)
  i : Boxed w bi 25 (.slice A1 info.length c1)
  hk : Kd.C (Kd.int .u8) w A0 key.length key
  hi : Kd.C (Kd.int .u8) w A1 info.length info
theorem Kept.below {bk bi : Nat} {A0 : Option Addr} {c0 : Nat} {key : List Int} {A1 : Option Addr} {c1 : Nat} {info : List Int} {w w' : World} (h : Kept bk bi A0 c0 key A1 c1 info w) (hb : Below w.heap.size w w') : Kept bk bi A0 c0 key A1 c1 info w' :=
  ⟨boxed_below h.k hb, boxed_below h.i hb, Kd.C_below h.hk hb, Kd.C_below h.hi hb⟩
theorem Kept.turn {bk bi : Nat} {A0 : Option Addr} {c0 : Nat} {key : List Int} {A1 : Option Addr} {c1 : Nat} {info : List Int} {w w' : World} {row : Option Nat} (h : Kept bk bi A0 c0 key A1 c1 info w) (hg : w.grownBy w' row) (hr : ∀ r, row = some r → ∃ o : Obj, w.heap[r]? = some o ∧ o.isCells = false) : Kept bk bi A0 c0 key A1 c1 info w' :=
  ⟨boxed_turn h.k hg hr, boxed_turn h.i hg hr, C_turn h.hk hg hr, C_turn h.hi hg hr⟩
theorem Rdl.turn {w w' : World} {v : Value} {l : List Int} {row : Option Nat} (h : Rdl w v l) (hg : w.grownBy w' row) (hr : ∀ r, row = some r → ∃ o : Obj, w.heap[r]? = some o ∧ o.isCells = false) : Rdl w' v l := by
  obtain ⟨A, c, hv, hc, hrd⟩ := h
  exact ⟨A, c, hv, hc, C_turn hrd hg hr⟩
def PxE (bk bi : Nat) (A0 : Option Addr) (c0 : Nat) (key : List Int) (A1 : Option Addr) (c1 : Nat) (info : List Int) (i : Nat) (v : Value) (W0 W1 : World) : Prop :=
  i < 255 ∧ Kept bk bi A0 c0 key A1 c1 info W0 ∧ Below W0.heap.size W0 W1 ∧ H.Own W1 W0.heap.size 5 .u8 v (tagN key info (i + 1))
def RxE (bk bi : Nat) (A0 : Option Addr) (c0 : Nat) (key : List Int) (A1 : Option Addr) (c1 : Nat) (info : List Int) (i : Nat) (v : Value) (W : World) : Prop :=
  i + 1 < 255 ∧ Kept bk bi A0 c0 key A1 c1 info W ∧ Rdl W v (tagN key info (i + 1))
set_option maxHeartbeats 1000000 in
set_option maxRecDepth 100000 in
theorem pieces1_in (n bk bi : Nat) (A0 : Option Addr) (c0 : Nat) (key : List Int) (A1 : Option Addr) (c1 : Nat) (info : List Int) (hc0 : key.length ≤ c0) (hc1 : info.length ≤ c1) (hk : key.length ≤ 549755813888) (hi : info.length ≤ 100000000000)
    (l : Nat) (J : Nat → World → Prop) (Jx : World → Prop) (W : World) (hJ : ∀ i A B, J i A → Below A.heap.size A B → J i B)
    (hY : ∀ i v W0 W1, J i W0 → PxE bk bi A0 c0 key A1 c1 info i v W0 W1 → YieldAt Fence.wide (n - 1) Tryz.prog l #[v] W1 fun e W' => (e = .returned (.bool true) ∧ J (i + 1) W' ∧ RxE bk bi A0 c0 key A1 c1 info i v W') ∨ (e = .returned (.bool false) ∧ Jx W'))
    (h0 : J 0 W) (hK0 : Kept bk bi A0 c0 key A1 c1 info W) :
    CallsIn Fence.wide n Tryz.prog 144 #[.func (.yield l) #[] #[], .pointer (some ⟨bk, 0, none⟩), .pointer (some ⟨bi, 0, none⟩)] W fun e W' => (∃ v, e = .returned v) ∧ Jx W' := by
  replace h0 := Aside0.mk h0
  replace hK0 := Aside0.mk hK0
  refine callsIn_of_wp Tryz.func144 rfl trivial ?_ rfl
  simp only [Tryz.ntmps144, List.size_toArray, List.length_cons, List.length_nil, Nat.reduceAdd, Nat.reduceSub, Array.replicate_succ, Array.replicate_zero, List.push_toArray, List.append_toArray, List.nil_append, List.cons_append]
  gi_wp2
  gi_loopw [4, 5] (fun t k wr => ∃ i : Nat, i < 255 ∧ k = .int .u8 ((i : Int) + 1) ∧ Aside0 (Rdl wr t (tagN key info i)) ∧ Aside0 (J i wr) ∧ Aside0 (Kept bk bi A0 c0 key A1 c1 info wr)) (fun _ k _ => 256 - (intOf k).toNat)
  case atStart => exact ⟨0, by omega, rfl, ⟨⟨none, 0, rfl, Nat.le_refl _, Kd.C_of_reads (enc := Value.int .u8) (d := (0 : Int)) (h1 := fun _ => rfl) ⟨rfl, by simp [tagN], fun h => by cases h⟩⟩⟩, h0, hK0⟩
  case round =>
    obtain ⟨i, hi9, rfl, HT, HJ, HK⟩ := hrel
    obtain ⟨At, ct, rfl, hct, hrt⟩ := HT.out.out
    have HRt := Aside0.mk hrt
    clear hrt HT
    have kb := HK.out.k.cell
    have ib := HK.out.i.cell
    have L0 := Aside0.mk (((Below.refl wr.heap.size wr).alloc (Nat.le_refl _) (.cells #[.int .u8 ((i : Int) + 1)] 5)).alloc (by simp) (.cells #[.slice At (tagN key info i).length ct, .slice A1 info.length c1, .slice (some ⟨wr.heap.size, 0, none⟩) 1 1] 25))
    have HI : Aside0 (Lists ((wr.alloc (.cells #[.int .u8 ((i : Int) + 1)] 5)).alloc (.cells #[.slice At (tagN key info i).length ct, .slice A1 info.length c1, .slice (some ⟨wr.heap.size, 0, none⟩) 1 1] 25)) (wr.heap.size + 1) [tagN key info i, info, [(i : Int) + 1]]) := ⟨⟨fun j hj => by
      have hc := fun j => cell_alloc_mark_at2 (wr.alloc (.cells #[.int .u8 ((i : Int) + 1)] 5)) #[.slice At (tagN key info i).length ct, .slice A1 info.length c1, .slice (some ⟨wr.heap.size, 0, none⟩) 1 1] 25 (0, 0) j
      simp only [World.size_alloc] at hc
      match j, hj with
      | 0, _ => exact ⟨At, ct, hc 0, Kd.C_below HRt.out L0.out, hct⟩
      | 1, _ => exact ⟨A1, c1, hc 1, Kd.C_below HK.out.hi L0.out, hc1⟩
      | 2, _ => exact ⟨some ⟨wr.heap.size, 0, none⟩, 1, hc 2, Kd.C_below (lit_readsC0 wr [(i : Int) + 1] 5 (0, 0) (by simp)) ((Below.refl _ _).alloc (Nat.le_refl _) _), Nat.le_refl _⟩
      | j + 3, hj => exact absurd hj (by simp)⟩⟩
    have ht9 := tagN_le key info i
    gi_wp2_with fail
    refine ⟨trivial, (fun h => by cases h), (callsIn_wide.2 (all_any A0 c0 key (wr.heap.size + 1) 3 3 [tagN key info i, info, [(i : Int) + 1]] _ (Kd.C_below HK.out.hk L0.out) hc0 hk HI.out (by simp) rfl (by simp; omega) (by decide))).mono ?_⟩
    rintro e w1 ⟨v, rfl, O1, l1⟩
    have L1 := Aside0.mk (below_then L0.out (by simp; omega) l1)
    have PX : PxE bk bi A0 c0 key A1 c1 info i v wr w1 := ⟨hi9, HK.out, L1.out, O1.lower (by simp; omega)⟩
    obtain ⟨fn, tmps, assign, body, hy, hR⟩ := hY i v wr w1 HJ.out PX
    clear PX O1 l1 HI L0
    gi_wp2
    refine ⟨(fun h => by cases h), hR.mono ?_⟩
    rintro e W' (⟨rfl, hJ', hlt, hK', hT'⟩ | ⟨rfl, hx⟩)
    · replace hJ' := Aside0.mk hJ'
      replace hK' := Aside0.mk hK'
      replace hT' := Aside0.mk hT'
      gi_wp2
      go_roundw
      case rel => exact ⟨i + 1, by omega, by go_num, hT', hJ', hK'⟩
      case measure => simp [intOf]; omega
    · replace hx := Aside0.mk hx
      gi_wp2
      refine bodyPost_ret (results_none rfl _ _ _) rfl ?_
      exact ⟨⟨_, rfl⟩, hx.out⟩
/-- What the loop of Expand holds when i tags have come: the bytes so far, in a box of its own; how many are wanted. -/
structure ExpO (bo bn hs : Nat) (n : Int) (key info : List Int) (w0 : World) (i : Nat) (W : World) : Prop where
  out : ∃ vo, Boxed W bo 25 vo ∧ H.Own W hs 5 .u8 vo (expN key info i)
  num : Boxed W bn 3 (.int .i64 n)
  bel : Below hs w0 W
theorem ExpO.below {bo bn hs : Nat} {n : Int} {key info : List Int} {w0 W W' : World} {i : Nat} (h : ExpO bo bn hs n key info w0 i W) (hb : Below W.heap.size W W') (hh : hs ≤ W.heap.size) : ExpO bo bn hs n key info w0 i W' := by
  obtain ⟨⟨vo, h1, h2⟩, h3, h4⟩ := h
  exact ⟨⟨vo, boxed_below h1 hb, h2.below hb⟩, boxed_below h3 hb, h4.trans (hb.mono hh)⟩
theorem ExpO.turn {bo bn hs B : Nat} {n : Int} {key info : List Int} {w0 W W' : World} {i : Nat} {row : Option Nat} (h : ExpO bo bn hs n key info w0 i W) (hg : W.grownBy W' row) (hr : ∀ r, row = some r → B ≤ r ∧ ∃ o : Obj, W.heap[r]? = some o ∧ o.isCells = false) (hB : hs ≤ B) (hw : hs ≤ w0.heap.size) : ExpO bo bn hs n key info w0 i W' := by
  obtain ⟨⟨vo, h1, h2⟩, h3, h4⟩ := h
  exact ⟨⟨vo, boxed_turn h1 hg (fun r e => (hr r e).2), own_turn h2 hg (fun r e => (hr r e).2)⟩, boxed_turn h3 hg (fun r e => (hr r e).2), h4.grown hg (Nat.le_trans hw h4.size) (fun k e => Nat.le_trans hB (hr k e).1)⟩
/-- What a round begins with. -/
structure ExpB (bo bn bk bi hs : Nat) (n : Int) (A0 : Option Addr) (c0 : Nat) (key : List Int) (A1 : Option Addr) (c1 : Nat) (info : List Int) (w0 : World) (i : Nat) (v : Value) (W : World) : Prop where
  lt : 32 * (i : Int) < n
  kept : Kept bk bi A0 c0 key A1 c1 info W
  out : ∃ vo s, Boxed W bo 25 vo ∧ H.Own W hs 5 .u8 vo (expN key info i) ∧ H.Own W s 5 .u8 v (tagN key info (i + 1)) ∧ bi < s ∧ ∀ g, vo.ownBlock = some g → g < s
  num : Boxed W bn 3 (.int .i64 n)
  bel : Below hs w0 W
theorem ExpB.turn {bo bn bk bi hs B : Nat} {n : Int} {A0 : Option Addr} {c0 : Nat} {key : List Int} {A1 : Option Addr} {c1 : Nat} {info : List Int} {w0 W W' : World} {i : Nat} {v : Value} {row : Option Nat} (h : ExpB bo bn bk bi hs n A0 c0 key A1 c1 info w0 i v W) (hg : W.grownBy W' row) (hr : ∀ r, row = some r → B ≤ r ∧ ∃ o : Obj, W.heap[r]? = some o ∧ o.isCells = false) (hB : hs ≤ B) (hw : hs ≤ w0.heap.size) : ExpB bo bn bk bi hs n A0 c0 key A1 c1 info w0 i v W' := by
  obtain ⟨hl, hk, ⟨vo, s, h1, h2, h3, h4, h5⟩, h6, h7⟩ := h
  exact ⟨hl, hk.turn hg (fun r e => (hr r e).2), ⟨vo, s, boxed_turn h1 hg (fun r e => (hr r e).2), own_turn h2 hg (fun r e => (hr r e).2), own_turn h3 hg (fun r e => (hr r e).2), h4, h5⟩, boxed_turn h6 hg (fun r e => (hr r e).2), h7.grown hg (Nat.le_trans hw h7.size) (fun k e => Nat.le_trans hB (hr k e).1)⟩
theorem own_lt {w : World} {b e : Nat} {k : IntKind} {v : Value} {l : List Int} (h : H.Own w b e k v l) : ∀ g, v.ownBlock = some g → g < w.heap.size := fun g' e' => by
  rcases h.out.2 with ⟨rfl, _⟩ | ⟨g, cap, cur, rfl, _, hgb, _⟩
  · cases e'
  · obtain rfl : g = g' := by simpa [Value.ownBlock] using e'
    exact (Array.getElem?_eq_some_iff.1 hgb).1
set_option maxHeartbeats 1000000 in
theorem pieces_any (A0 : Option Addr) (n0 c0 : Nat) (A1 : Option Addr) (n1 c1 : Nat) (w : World) :
    Calls Tryz.prog 94 #[.slice A0 n0 c0, .slice A1 n1 c1] w fun e w' => e = .returned (.func (.func 144) #[] #[.pointer (some ⟨w.heap.size, 0, none⟩), .pointer (some ⟨w.heap.size + 1, 0, none⟩)]) ∧ w' = (w.alloc (.cells #[.slice A0 n0 c0] 25)).alloc (.cells #[.slice A1 n1 c1] 25) := by
  have hmf : ∀ (fn : Fn) (first cap : Array Value) (w : World), (Instr.makeFunc fn first cap).run Tryz.prog w = .ok (.func fn first cap) w := fun _ _ _ _ => rfl
  go_enter Tryz.func94, Tryz.ntmps94
  go_wp2
  go_ret
  exact ⟨rfl, rfl⟩
theorem expand_none (A0 : Option Addr) (c0 : Nat) (l0 : List Int) (A1 : Option Addr) (c1 : Nat) (l1 : List Int) (n : Int) (w : World) (hn : n < 0 ∨ 8160 < n) :
    Calls Tryz.prog 43 #[.slice A0 l0.length c0, .slice A1 l1.length c1, .int .i64 n] w fun e w' => e = .returned (.tuple #[.slice none 0 0, .int .i64 1]) ∧ Below w.heap.size w w' := by
  have L0 := Aside0.mk ((Below.refl w.heap.size w).alloc (Nat.le_refl _) (.cells #[.int .i64 n] 3))
  go_enter Tryz.func43, Tryz.ntmps43
  by_cases h : n < 0
  · have q0 : (n < 0) = True := eq_true h
    clear hn
    go_wp2
    exact bodyPost_ret (results_tmp2 rfl _ _ _) rfl ⟨rfl, L0.out⟩
  · have q0 : (n < 0) = False := eq_false h
    have q1 : (8160 < n) = True := eq_true (by omega)
    clear hn
    go_wp2
    exact bodyPost_ret (results_tmp2 rfl _ _ _) rfl ⟨rfl, L0.out⟩
theorem expand_zero (A0 : Option Addr) (c0 : Nat) (l0 : List Int) (A1 : Option Addr) (c1 : Nat) (l1 : List Int) (w : World) :
    Calls Tryz.prog 43 #[.slice A0 l0.length c0, .slice A1 l1.length c1, .int .i64 0] w fun e w' => ∃ v, e = .returned (.tuple #[v, .int .i64 0]) ∧ H.Own w' w.heap.size 5 .u8 v [] ∧ Below w.heap.size w w' := by
  go_enter Tryz.func43, Tryz.ntmps43
  go_wp2
  have Bz := ((Blk.at1 w (.cells #[.int .i64 0] 3) 5 .u8 [] #[] rfl).alloc (.cells #[.slice (some ⟨w.heap.size + 1, 0, none⟩) 0 0] 25))
  exact bodyPost_ret (results_tmp2 rfl _ _ _) rfl ⟨_, rfl, Own.of_blk Bz (by omega) (by decide), (((Below.refl w.heap.size w).alloc (Nat.le_refl _) _).alloc (by simp) _).alloc (by simp; omega) _⟩
set_option maxHeartbeats 1000000 in
set_option maxRecDepth 100000 in
theorem expand_pos (A0 : Option Addr) (c0 : Nat) (key : List Int) (A1 : Option Addr) (c1 : Nat) (info : List Int) (n : Int) (w : World) (hr0 : Kd.C (Kd.int .u8) w A0 key.length key) (hc0 : key.length ≤ c0) (hr1 : Kd.C (Kd.int .u8) w A1 info.length info) (hc1 : info.length ≤ c1) (hk : key.length ≤ 549755813888) (hi : info.length ≤ 100000000000) (h0 : 0 < n) (h1 : n ≤ 8160) :
    Calls Tryz.prog 43 #[.slice A0 key.length c0, .slice A1 info.length c1, .int .i64 n] w fun e w' => ∃ v, e = .returned (.tuple #[v, .int .i64 0]) ∧ H.Own w' w.heap.size 5 .u8 v ((expN key info 255).take n.toNat) ∧ Below w.heap.size w w' := by
  have HR0 := Aside0.mk hr0
  have HR1 := Aside0.mk hr1
  clear hr0 hr1
  have q0 : (n < 0) = False := eq_false (by omega)
  have q1 : (8160 < n) = False := eq_false (by omega)
  have q2 : (n = 0) = False := eq_false (by omega)
  refine (callsIn_wide (n := 3)).1 ?_
  refine callsIn_of_wp_marks Tryz.func43 rfl trivial ?_ rfl
  simp only [Tryz.ntmps43, List.size_toArray, List.length_cons, List.length_nil, Nat.reduceAdd, Nat.reduceSub, Array.replicate_succ, Array.replicate_zero, List.push_toArray, List.append_toArray, List.nil_append, List.cons_append]
  gi_wp2_with fail
  refine ⟨trivial, (callsIn_wide.2 (pieces_any A0 key.length c0 A1 info.length c1 _)).mono ?_⟩
  rintro e w' ⟨rfl, rfl⟩
  simp only [World.size_alloc]
  gi_wp2
  have b1 := (((Boxed.new w 3 (.int .i64 n)).alloc (.cells #[] 5)).alloc (.cells #[.slice (some ⟨w.heap.size + 1, 0, none⟩) 0 0] 25)).alloc (.cells #[.slice A0 key.length c0] 25) |>.alloc (.cells #[.slice A1 info.length c1] 25)
  have b2 := (Boxed.new ((w.alloc (.cells #[.int .i64 n] 3)).alloc (.cells #[] 5)) 25 (.slice (some ⟨w.heap.size + 1, 0, none⟩) 0 0)).alloc (.cells #[.slice A0 key.length c0] 25) |>.alloc (.cells #[.slice A1 info.length c1] 25)
  have b3 := (Boxed.new (((w.alloc (.cells #[.int .i64 n] 3)).alloc (.cells #[] 5)).alloc (.cells #[.slice (some ⟨w.heap.size + 1, 0, none⟩) 0 0] 25)) 25 (.slice A0 key.length c0)).alloc (.cells #[.slice A1 info.length c1] 25)
  have b4 := Boxed.new ((((w.alloc (.cells #[.int .i64 n] 3)).alloc (.cells #[] 5)).alloc (.cells #[.slice (some ⟨w.heap.size + 1, 0, none⟩) 0 0] 25)).alloc (.cells #[.slice A0 key.length c0] 25)) 25 (.slice A1 info.length c1)
  have o2 := Own.of_blk (base := w.heap.size) ((((Blk.at1 w (.cells #[.int .i64 n] 3) 5 .u8 [] #[] rfl).alloc (.cells #[.slice (some ⟨w.heap.size + 1, 0, none⟩) 0 0] 25)).alloc (.cells #[.slice A0 key.length c0] 25)).alloc (.cells #[.slice A1 info.length c1] 25)) (by omega) (by decide)
  have l0 := (((((Below.refl w.heap.size w).alloc (Nat.le_refl _) (.cells #[.int .i64 n] 3)).alloc (by simp) (.cells #[] 5)).alloc (by simp; omega) (.cells #[.slice (some ⟨w.heap.size + 1, 0, none⟩) 0 0] 25)).alloc (by simp; omega) (.cells #[.slice A0 key.length c0] 25)).alloc (by simp; omega) (.cells #[.slice A1 info.length c1] 25)
  have sz : (((((w.alloc (.cells #[.int .i64 n] 3)).alloc (.cells #[] 5)).alloc (.cells #[.slice (some ⟨w.heap.size + 1, 0, none⟩) 0 0] 25)).alloc (.cells #[.slice A0 key.length c0] 25)).alloc (.cells #[.slice A1 info.length c1] 25)).heap.size = w.heap.size + 5 := by simp
  simp only [World.size_alloc] at b2 b3 b4
  generalize ((((w.alloc (.cells #[.int .i64 n] 3)).alloc (.cells #[] 5)).alloc (.cells #[.slice (some ⟨w.heap.size + 1, 0, none⟩) 0 0] 25)).alloc (.cells #[.slice A0 key.length c0] 25)).alloc (.cells #[.slice A1 info.length c1] 25) = W0 at b1 b2 b3 b4 o2 l0 sz ⊢
  have hKW : Kept (w.heap.size + 1 + 1 + 1) (w.heap.size + 1 + 1 + 1 + 1) A0 c0 key A1 c1 info W0 := ⟨b3, b4, Kd.C_below HR0.out l0, Kd.C_below HR1.out l0⟩
  have hC0 := Aside0.mk (C_old HR0.out)
  have hC1 := Aside0.mk (C_old HR1.out)
  have hlt0 : w.heap.size ≤ W0.heap.size := by omega
  replace sz := Aside0.mk sz
  have hn1 := Aside0.mk h0
  have hn2 := Aside0.mk h1
  clear q0 q1 q2 h0 h1
  refine wp_range (m := 1) (gf := 144) (lb := #[.pointer (some ⟨w.heap.size + 1 + 1 + 1, 0, none⟩), .pointer (some ⟨w.heap.size + 1 + 1 + 1 + 1, 0, none⟩)]) rfl (enters_of Tryz.func144 (by kernel_rfl) rfl)
    (PxE (w.heap.size + 1 + 1 + 1) (w.heap.size + 1 + 1 + 1 + 1) A0 c0 key A1 c1 info) (RxE (w.heap.size + 1 + 1 + 1) (w.heap.size + 1 + 1 + 1 + 1) A0 c0 key A1 c1 info)
    (ExpB (w.heap.size + 1 + 1) w.heap.size (w.heap.size + 1 + 1 + 1) (w.heap.size + 1 + 1 + 1 + 1) w.heap.size n A0 c0 key A1 c1 info w)
    (fun i W => 32 * (i : Int) < n ∧ w.heap.size ≤ W.heap.size ∧ ExpO (w.heap.size + 1 + 1) w.heap.size w.heap.size n key info w i W) (fun id W => id = 0 ∧ ∃ i : Nat, n ≤ 32 * (i : Int) ∧ i ≤ 255 ∧ ExpO (w.heap.size + 1 + 1) w.heap.size w.heap.size n key info w i W)
    ?seq ?hIb ?hI ?hIx ?hB ?hR (fun i v V0 V1 h => h.2.2.1) ?hPB ⟨by have := hn1.out; omega, hlt0, ⟨_, b2, o2⟩, b1, l0⟩
    (fun v => { tmps := #[.slice A0 key.length c0, .slice A1 info.length c1, .int .i64 n, undef, undef, .pointer (some ⟨w.heap.size, 0, none⟩), .slice none 0 0, .int .i64 0, .pointer (some ⟨w.heap.size + 1 + 1, 0, none⟩), v, .int .i64 n, .bool false, .bool false, .int .i64 n, .bool false, .bool false, .slice (some ⟨w.heap.size + 1, 0, none⟩) 0 0, .int .i64 n, .bool false, undef, .slice A0 key.length c0, .slice A1 info.length c1, .func (.func 144) #[] #[.pointer (some ⟨w.heap.size + 1 + 1 + 1, 0, none⟩), .pointer (some ⟨w.heap.size + 1 + 1 + 1 + 1, 0, none⟩)], v, undef, undef, undef, undef, undef, undef, undef, undef, undef, undef], defers := [] }) ?assign ?body ?stop
  case seq =>
    intro l J Jx V hV hJ hY hj0
    exact pieces1_in 2 _ _ A0 c0 key A1 c1 info hc0 hc1 hk hi l J Jx V hJ hY hj0 (hKW.below hV)
  case hIb => exact fun i A B h hb => ⟨h.1, Nat.le_trans h.2.1 hb.size, h.2.2.below hb h.2.1⟩
  case hI => exact fun i A B row h hg hr => ⟨h.1, Nat.le_trans h.2.1 hg.size, h.2.2.turn hg hr hlt0 (Nat.le_refl _)⟩
  case hIx => exact fun id A B row h hg hr => ⟨h.1, by obtain ⟨i, h1, h2, h3⟩ := h.2; exact ⟨i, h1, h2, h3.turn hg hr hlt0 (Nat.le_refl _)⟩⟩
  case hB => exact fun i v _ A B row h hg hr => h.turn hg hr hlt0 (Nat.le_refl _)
  case hR => exact fun i v _ A B row h hg hr => ⟨h.1, h.2.1.turn hg (fun r e => (hr r e).2), h.2.2.turn hg (fun r e => (hr r e).2)⟩
  case hPB =>
    intro i v V0 V1 hs ⟨h1, hV, ⟨vo, h2, h3⟩, h4, h5⟩ ⟨p1, p2, p3, p4⟩
    exact ⟨h1, p2.below p3, ⟨vo, V0.heap.size, boxed_below h2 p3, h3.below p3, p4, by have := sz.out; omega, own_lt h3⟩, boxed_below h4 p3, h5.trans (p3.mono hV)⟩
  case assign =>
    intro l v W K hK
    gi_wp2
    exact hK
  case body =>
    rintro l i v W hsz ⟨hlt, HK, ⟨vo, s, hbo, hvo, hv, hs9, hfar⟩, hbn, hbel⟩
    have hi9 : i < 255 := by have := hn2.out; omega
    have e32 := tagN_length key info i
    have elen := expN_length key info i
    obtain ⟨gv, cv, rfl, hgv, hcv, hrv⟩ := hv.readsC (by rw [e32]; decide) (by rw [e32]; decide)
    obtain ⟨adv, eadv, hcells⟩ := C_cells hrv (by rw [e32]; decide)
    cases eadv
    obtain ⟨i0, hi0, hz0, hz1, hz2⟩ := info_parts info5
    have hcell := hbo.cell
    have hcn := hbn.cell
    have EL := Aside0.mk elen
    have E32 := Aside0.mk e32
    have HN := Aside0.mk hlt
    have N255 := Aside0.mk hi9
    have HKK := Aside0.mk HK
    have HB := Aside0.mk hbel
    have HBN := Aside0.mk hbn
    have HBO := Aside0.mk hbo
    have HVO := Aside0.mk hvo
    have HRV := Aside0.mk hrv
    have HFAR := Aside0.mk hfar
    clear elen e32 hlt hi9 HK hbel hbn hbo hvo hrv hfar hv
    by_cases hend : n ≤ 32 * (i : Int) + 32
    · have q3 : (n ≤ ((expN key info (i + 1)).length : Int)) = True := eq_true (by rw [expN_length]; omega)
      have hb1 := Aside0.mk (show (expN key info i).length + (tagN key info (i + 1)).length ≤ maxLen by have := EL.out; have := E32.out; have := N255.out; have : maxLen = 9223372036854775807 := rfl; omega)
      have hb2 := Aside0.mk (show ((expN key info i).length + (tagN key info (i + 1)).length) * 1 ≤ 140737488355328 by have := EL.out; have := E32.out; have := N255.out; omega)
      have hb3 := HB.out.size
      gi_wp2_with (gi_at_builtin; refine wpListIn_append_own_at _ rfl _ _ 25 rfl w.heap.size 5 i0 (.int .u8 0) 1 1 Tryz.underlying25 hi0 hz0 hz1 hz2 rfl (by decide) vo (expN key info i).length (nums .u8 (expN key info i)) rfl HVO.out.out ⟨gv, 0, none⟩ (tagN key info (i + 1)).length cv (nums .u8 (tagN key info (i + 1))) rfl (by rw [nums_len]; omega) hcells oneCell_nums hb1.out hb2.out hb3 ?_; intro v' w1 hown' hgrow _ hat; rw [← nums_app, ← List.length_append] at hown'; have O1 : Aside0 (H.Own w1 w.heap.size 5 .u8 v' (expN key info (i + 1))) := ⟨⟨hown'⟩⟩; obtain ⟨g', cap', rfl, _, _, _⟩ := O1.out.readsC (by rw [expN_length]; omega) (by rw [expN_length]; have := N255.out; omega); have hv1 : Boxed w1 (w.heap.size + 1 + 1) 25 vo := HBO.out.kept hgrow (HBO.out.not_row (by decide) HVO.out.out); have hbn1 : Boxed w1 w.heap.size 3 (.int .i64 n) := HBN.out.kept hgrow (HBN.out.not_row (by decide) HVO.out.out); have hcell1 := hv1.cell; have hfz1 := hv1.frozen; have hcn1 := hbn1.cell; clear hcell hcn hown' hat; replace hv1 := Aside0.mk hv1; replace hbn1 := Aside0.mk hbn1; replace hgrow := Aside0.mk hgrow)
      have hrow : ∀ k, vo.ownBlock = some k → w.heap.size ≤ k := own_base HVO.out.out
      have hnr : some (w.heap.size + 1 + 1) ≠ (Value.slice (some ⟨g', 0, none⟩) (expN key info (i + 1)).length cap').ownBlock := hv1.out.not_row (by decide) O1.out.out
      have X1 := hv1.out.set (.slice (some ⟨g', 0, none⟩) (expN key info (i + 1)).length cap')
      have X2 := O1.out.grown (grownBy_setCell' w1 (w.heap.size + 1 + 1) (.slice (some ⟨g', 0, none⟩) (expN key info (i + 1)).length cap')) (.inr hnr.symm)
      have X3 := hbn1.out.kept (grownBy_setCell' w1 (w.heap.size + 1 + 1) (.slice (some ⟨g', 0, none⟩) (expN key info (i + 1)).length cap')) (fun e => by have := Option.some.inj e; omega)
      have X4 := (HB.out.grown hgrow.out hb3 (fun k e => hrow k e)).setCell (p := ⟨w.heap.size + 1 + 1, 0, none⟩) (by simp; omega) (.slice (some ⟨g', 0, none⟩) (expN key info (i + 1)).length cap')
      have X5 : KeepsFrom W0.heap.size W (w1.setCell ⟨w.heap.size + 1 + 1, 0, none⟩ (.slice (some ⟨g', 0, none⟩) (expN key info (i + 1)).length cap')) := ((KeepsOthers.of_grownBy hgrow.out (fun j o ej hj => by
        rcases HVO.out.out.2 with ⟨rfl, _⟩ | ⟨g, cap, cur, rfl, _, hgb, _⟩
        · simp [Value.ownBlock] at ej
        · obtain rfl : g = j := by simpa [Value.ownBlock] using ej
          rw [hgb] at hj
          cases hj
          rfl)).trans (KeepsOthers.setCell _ _ _)).from _
      exact ⟨X5, rfl, i + 1, by omega, by have := N255.out; omega, ⟨_, X1, X2⟩, X3, X4⟩
    · have q3 : (n ≤ ((expN key info (i + 1)).length : Int)) = False := eq_false (by rw [expN_length]; omega)
      have hb1 := Aside0.mk (show (expN key info i).length + (tagN key info (i + 1)).length ≤ maxLen by have := EL.out; have := E32.out; have := N255.out; have : maxLen = 9223372036854775807 := rfl; omega)
      have hb2 := Aside0.mk (show ((expN key info i).length + (tagN key info (i + 1)).length) * 1 ≤ 140737488355328 by have := EL.out; have := E32.out; have := N255.out; omega)
      have hb3 := HB.out.size
      gi_wp2_with (gi_at_builtin; refine wpListIn_append_own_at _ rfl _ _ 25 rfl w.heap.size 5 i0 (.int .u8 0) 1 1 Tryz.underlying25 hi0 hz0 hz1 hz2 rfl (by decide) vo (expN key info i).length (nums .u8 (expN key info i)) rfl HVO.out.out ⟨gv, 0, none⟩ (tagN key info (i + 1)).length cv (nums .u8 (tagN key info (i + 1))) rfl (by rw [nums_len]; omega) hcells oneCell_nums hb1.out hb2.out hb3 ?_; intro v' w1 hown' hgrow _ hat; rw [← nums_app, ← List.length_append] at hown'; have O1 : Aside0 (H.Own w1 w.heap.size 5 .u8 v' (expN key info (i + 1))) := ⟨⟨hown'⟩⟩; obtain ⟨g', cap', rfl, _, _, _⟩ := O1.out.readsC (by rw [expN_length]; omega) (by rw [expN_length]; have := N255.out; omega); have hv1 : Boxed w1 (w.heap.size + 1 + 1) 25 vo := HBO.out.kept hgrow (HBO.out.not_row (by decide) HVO.out.out); have hbn1 : Boxed w1 w.heap.size 3 (.int .i64 n) := HBN.out.kept hgrow (HBN.out.not_row (by decide) HVO.out.out); have hcell1 := hv1.cell; have hfz1 := hv1.frozen; have hcn1 := hbn1.cell; clear hcell hcn hown' hat; replace hv1 := Aside0.mk hv1; replace hbn1 := Aside0.mk hbn1; replace hgrow := Aside0.mk hgrow)
      have hrow : ∀ k, vo.ownBlock = some k → w.heap.size ≤ k := own_base HVO.out.out
      have hnr : some (w.heap.size + 1 + 1) ≠ (Value.slice (some ⟨g', 0, none⟩) (expN key info (i + 1)).length cap').ownBlock := hv1.out.not_row (by decide) O1.out.out
      have X1 := hv1.out.set (.slice (some ⟨g', 0, none⟩) (expN key info (i + 1)).length cap')
      have X2 := O1.out.grown (grownBy_setCell' w1 (w.heap.size + 1 + 1) (.slice (some ⟨g', 0, none⟩) (expN key info (i + 1)).length cap')) (.inr hnr.symm)
      have X3 := hbn1.out.kept (grownBy_setCell' w1 (w.heap.size + 1 + 1) (.slice (some ⟨g', 0, none⟩) (expN key info (i + 1)).length cap')) (fun e => by have := Option.some.inj e; omega)
      have X4 := (HB.out.grown hgrow.out hb3 (fun k e => hrow k e)).setCell (p := ⟨w.heap.size + 1 + 1, 0, none⟩) (by simp; omega) (.slice (some ⟨g', 0, none⟩) (expN key info (i + 1)).length cap')
      have X5 : KeepsFrom W0.heap.size W (w1.setCell ⟨w.heap.size + 1 + 1, 0, none⟩ (.slice (some ⟨g', 0, none⟩) (expN key info (i + 1)).length cap')) := ((KeepsOthers.of_grownBy hgrow.out (fun j o ej hj => by
        rcases HVO.out.out.2 with ⟨rfl, _⟩ | ⟨g, cap, cur, rfl, _, hgb, _⟩
        · simp [Value.ownBlock] at ej
        · obtain rfl : g = j := by simpa [Value.ownBlock] using ej
          rw [hgb] at hj
          cases hj
          rfl)).trans (KeepsOthers.setCell _ _ _)).from _
      refine ⟨X5, ⟨by omega, X4.size, ⟨_, X1, X2⟩, X3, X4⟩, ?_, ⟨?_, ?_, ?_, ?_⟩, ?_⟩
      · have := hn2.out
        omega
      · exact (HKK.out.k.kept hgrow.out (HKK.out.k.not_row (by decide) HVO.out.out)).kept (grownBy_setCell' w1 _ _) (fun e => by have := Option.some.inj e; omega)
      · exact (HKK.out.i.kept hgrow.out (HKK.out.i.not_row (by decide) HVO.out.out)).kept (grownBy_setCell' w1 _ _) (fun e => by have := Option.some.inj e; omega)
      · refine C_grown (C_grown HKK.out.hk hgrow.out (hC0.out.imp id fun h ad e e2 => ?_)) (grownBy_setCell' w1 _ _) (hC0.out.imp id fun h ad e e2 => ?_)
        · have h1 := h ad e
          have h2 := hrow ad.block e2.symm
          omega
        · have h1 := h ad e
          have h2 := Option.some.inj e2
          omega
      · refine C_grown (C_grown HKK.out.hi hgrow.out (hC1.out.imp id fun h ad e e2 => ?_)) (grownBy_setCell' w1 _ _) (hC1.out.imp id fun h ad e e2 => ?_)
        · have h1 := h ad e
          have h2 := hrow ad.block e2.symm
          omega
        · have h1 := h ad e
          have h2 := Option.some.inj e2
          omega
      · refine ⟨⟨some ⟨gv, 0, none⟩, cv, rfl, hcv, C_grown (C_grown HRV.out hgrow.out (.inr fun ad e e2 => ?_)) (grownBy_setCell' w1 _ _) (.inr fun ad e e2 => ?_)⟩⟩
        · cases e
          have h2 := HFAR.out gv e2.symm
          omega
        · cases e
          have h2 := Option.some.inj e2
          simp only at h2
          omega
  case stop =>
    rintro D id W hD ⟨rfl, i, hni, hi9, ⟨vo, h1, h2⟩, h3, h4⟩ hDK
    have hcell := h1.cell
    have hcn := h3.cell
    obtain ⟨i0, hi0, hz0, hz1, hz2⟩ := info_parts info5
    have elen := expN_length key info i
    have hp1 := hn1.out
    obtain ⟨g, c, rfl, hg, hc, hr⟩ := h2.readsC (by omega) (by omega)
    obtain ⟨hcut1, hrd1, hcl1⟩ := print_take_of (P := Tryz.prog) (Value.int .u8) 0 25 5 .i64 Tryz.underlying25 hi0 hz1 (some ⟨g, 0, none⟩) c (expN key info i) n (by omega) (by omega) hc
    have hlt : ((expN key info i).take n.toNat).length = n.toNat := by rw [List.length_take]; omega
    have hO : H.Own W w.heap.size 5 .u8 (.slice (some ⟨g, 0, none⟩) ((expN key info i).take n.toNat).length c) ((expN key info 255).take n.toNat) := by
      rw [← expN_take' key info i n.toNat hi9 (by omega)]
      refine ⟨?_⟩
      have h := own_take h2.out (m := ((expN key info i).take n.toNat).length) (by omega)
      rw [Nat.mul_one, hlt] at h
      rw [hlt]
      rw [show nums .u8 ((expN key info i).take n.toNat) = (nums .u8 (expN key info i)).take n.toNat by simp [nums, List.map_take]]
      exact h
    rw [hlt] at hO hcut1
    have hO2 := own_turn hO (grownBy_putObj' W D (.deferred none)) (fun r e => by cases e; exact ⟨_, hDK, rfl⟩)
    have hB2 := Aside0.mk (h4.grown (grownBy_putObj' W D (.deferred none)) (by have := h4.size; omega) (fun r e => by cases e; omega))
    replace hO2 := Aside0.mk hO2
    clear hrd1 hcl1 hr h1 h2 h3 hO elen
    replace h4 := Aside0.mk h4
    replace hlt := Aside0.mk hlt
    gi_wp2
    refine ⟨by simp, .inl ⟨_, _, rfl, run_takeDeferred hDK, ?_⟩⟩
    exact ⟨_, results_tmp2 rfl _ _ _, _, rfl, hO2.out, hB2.out⟩
/-- So many bytes made of a key. -/
theorem expand_any (A0 : Option Addr) (c0 : Nat) (key : List Int) (A1 : Option Addr) (c1 : Nat) (info : List Int) (n : Int) (w : World) (hr0 : Kd.C (Kd.int .u8) w A0 key.length key) (hc0 : key.length ≤ c0) (hr1 : Kd.C (Kd.int .u8) w A1 info.length info) (hc1 : info.length ≤ c1) (hk : key.length ≤ 549755813888) (hi : info.length ≤ 100000000000) (h0 : 0 ≤ n) (h1 : n ≤ 8160) :
    Calls Tryz.prog 43 #[.slice A0 key.length c0, .slice A1 info.length c1, .int .i64 n] w fun e w' => ∃ v, e = .returned (.tuple #[v, .int .i64 0]) ∧ H.Own w' w.heap.size 5 .u8 v ((expN key info 255).take n.toNat) ∧ Below w.heap.size w w' := by
  by_cases hn : n = 0
  · subst hn
    exact expand_zero A0 c0 key A1 c1 info w
  · exact expand_pos A0 c0 key A1 c1 info n w hr0 hc0 hr1 hc1 hk hi (by omega) h1
end Go.Proofs.YtkennblgbfhjiaaGreatDoor.Q
