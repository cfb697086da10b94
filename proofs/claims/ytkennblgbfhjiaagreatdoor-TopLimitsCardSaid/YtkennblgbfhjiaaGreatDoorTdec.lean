/- A manifest without entries, read whole. -/
import Derived.Test.YtkennblgbfhjiaaGreatDoorTsort
import Derived.Defers
import Derived.Recover
namespace Go.Proofs.YtkennblgbfhjiaaGreatDoor.Q
open Go.RowKit Go.Proofs.YtkennblgbfhjiaaGreatDoorW.PrintWords Go.Proofs.YtkennblgbfhjiaaGreatDoorW.PrintLast Go.Proofs.YtkennblgbfhjiaaGreatDoorW.PrintMore Go.Proofs.YtkennblgbfhjiaaGreatDoor.F Go.Proofs.YtkennblgbfhjiaaGreatDoor.H
set_option linter.unusedVariables false
set_option linter.unusedSimpArgs false
theorem catch_idle (p q : Addr) (w : World) :
    CallsD Tryz.prog 137 #[.pointer (some p), .pointer (some q)] .returning w fun e u' w' => e = .returned (.tuple #[]) ∧ u' = .returning ∧ w' = w := by
  refine callsD_of_wpS Tryz.func137 rfl fun c₀ cs hu => ?_
  apply wpS_seq
  apply wpS_region
  simp [wpOpsS, go_sem, recoverD, hu, Tryz.ntmps137, Exit.thenS]
  refine wpS_of_wp ?_
  go_wp2
  cases c₀
  simp_all [bodyPostS, results, Tryz.results137]
/-- What is read stays where a block without bytes is turned. -/
theorem SL.keepB {w w' : World} {v : Value} {l : List Int} {g t : Nat} {cs : List Value} (h : SL w v l) (hg : Bk w g t cs) (hcs : ∀ u ∈ cs, ∀ x, u ≠ .int .u8 x) (hw : w.grownBy w' (some g)) : SL w' v l := by
  obtain ⟨B, c', e, h1, h2⟩ := h
  refine ⟨B, c', e, h1, C_grown h2 hw ?_⟩
  obtain ⟨r1, r2, r3⟩ := Kd.reads_of_C (enc := Value.int .u8) (d := (0 : Int)) (h1 := fun _ => rfl) h2
  by_cases h0 : l.length = 0
  · exact .inl h0
  · right
    rintro ad rfl hbl
    obtain ⟨ad', ea, hc⟩ := r3 (by omega)
    obtain rfl := Option.some.inj ea
    obtain ⟨ab, ao, asb⟩ := ad
    have hb : ab = g := Option.some.inj hbl
    subst hb
    have h3 := hc 0 (by omega)
    cases asb with
    | none =>
      have h4 := hg.cell ao
      rw [show (⟨ab, ao, none⟩ : Addr).add 0 = ⟨ab, ao, none⟩ from rfl, h4] at h3
      obtain ⟨hi, he⟩ := List.getElem?_eq_some_iff.1 h3
      exact hcs _ (he ▸ List.getElem_mem hi) _ rfl
    | some s =>
      have ho := hg.out
      simp [World.cell?, Addr.add] at h3
      rw [ho] at h3
      simp at h3
/-- No byte among the values. -/
def NoByte (cs : List Value) : Prop := ∀ u ∈ cs, ∀ x, u ≠ .int .u8 x
theorem NoByte.set {cs : List Value} (h : NoByte cs) (i : Nat) {v : Value} (hv : ∀ x, v ≠ .int .u8 x) : NoByte (cs.set i v) := fun u hu x => by
  rcases List.mem_or_eq_of_mem_set hu with h1 | rfl
  · exact h u h1 x
  · exact hv x
theorem SL.noB {w : World} {v : Value} {l : List Int} (h : SL w v l) : ∀ x, v ≠ .int .u8 x := by
  obtain ⟨A, c, rfl⟩ := h.is
  intro x e
  cases e
/-- A reading under way: the result's blocks, the cursor, and what is left. -/
structure DS (w0 w : World) (g : Nat) (cs : List Value) (l : List Int) : Prop where
  hb : Bk w w0.heap.size 74 cs
  he : Bk w (w0.heap.size + 1) 27 [.int .i64 0]
  hc : Cur w g l
  hl : Below w0.heap.size w0 w
  hg : w0.heap.size + 1 < g
  hn : NoByte cs
theorem DS.cur {w0 w w' : World} {g : Nat} {cs : List Value} {l l' : List Int} (h : DS w0 w g cs l) (hw : w.grownBy w' (some g)) (hc : Cur w' g l') : DS w0 w' g cs l' := by
  have hg := h.hg
  exact ⟨h.hb.grown hw (fun e => by have := Option.some.inj e; omega), h.he.grown hw (fun e => by have := Option.some.inj e; omega), hc, h.hl.grown hw h.hl.size (fun k e => by have := Option.some.inj e; omega), hg, h.hn⟩
theorem DS.low {w0 w w' : World} {g : Nat} {cs : List Value} {l : List Int} (h : DS w0 w g cs l) (hw : Below w.heap.size w w') : DS w0 w' g cs l :=
  ⟨h.hb.below hw, h.he.below hw, h.hc.below hw, below_then h.hl h.hl.size hw, h.hg, h.hn⟩
theorem DS.keep {w0 w : World} {g : Nat} {cs : List Value} {l : List Int} (h : DS w0 w g cs l) (i : Nat) (v : Value) {u : Value} {m : List Int} (hu : SL w u m) : SL (w.setCell ⟨w0.heap.size, i, none⟩ v) u m :=
  hu.keepB h.hb h.hn (grown_set w _ i v)
theorem DS.put {w0 w : World} {g : Nat} {cs : List Value} {l : List Int} (h : DS w0 w g cs l) (i : Nat) (v : Value) (hv : ∀ x, v ≠ .int .u8 x) : DS w0 (w.setCell ⟨w0.heap.size, i, none⟩ v) g (cs.set i v) l := by
  have hw := grown_set w w0.heap.size i v
  have hg := h.hg
  obtain ⟨A, c, h1, h2, h3⟩ := h.hc.out
  refine ⟨h.hb.set i v, h.he.far (by show _ ≠ w0.heap.size; omega) v, ⟨A, c, (heap_setCell_other w _ g v (by show g ≠ w0.heap.size; omega)).trans h1, h2.keepB h.hb h.hn hw, h3⟩, h.hl.setCell (Nat.le_refl _) v, hg, h.hn.set i hv⟩
/-- A manifest's bytes, of a version's, of the one ahead, of a root. -/
def manB (v p r : List Int) : List Int := [67, 83, 75, 49] ++ (v ++ (p ++ (0 :: (0 :: r))))
set_option maxHeartbeats 1000000 in
set_option maxRecDepth 100000 in
theorem mdecode_any (A : Option Addr) (n c : Nat) (v p r : List Int) (w : World) (h : SL w (.slice A n c) (manB v p r)) (hv : v.length = 8) (hp : p.length = 32) (hr : r.length = 32) (h1 : beV v = 1) :
    Calls Tryz.prog 92 #[.slice A n c] w fun e w' => ∃ vp vr, e = .returned (.tuple #[.agg #[.int .u64 1, vp, .slice none 0 0, vr], .int .i64 0]) ∧ SL w' vp p ∧ SL w' vr r ∧ Below w.heap.size w w' := by
  have hmf : ∀ (fn : Fn) (first cap : Array Value) (w : World), (Instr.makeFunc fn first cap).run Tryz.prog w = .ok (.func fn first cap) w := fun _ _ _ _ => rfl
  have H := Aside0.mk h
  have HV := Aside0.mk hv
  have HP := Aside0.mk hp
  have HR := Aside0.mk hr
  have H1 := Aside0.mk h1
  clear h hv hp hr h1
  go_enter_defers Tryz.func92, Tryz.ntmps92
  go_wp2_with fail
  have P0 := (Bk.at0 w 74 [.int .u64 0, .slice none 0 0, .slice none 0 0, .slice none 0 0] _ rfl).alloc (.cells #[.int .i64 0] 27)
  have Q0 := Bk.at0 (w.alloc (.cells #[.int .u64 0, .slice none 0 0, .slice none 0 0, .slice none 0 0] 74)) 27 [.int .i64 0] _ rfl
  have L0 : Below w.heap.size w ((w.alloc (.cells #[.int .u64 0, .slice none 0 0, .slice none 0 0, .slice none 0 0] 74)).alloc (.cells #[.int .i64 0] 27)) := below_alloc (below_alloc (Below.refl _ _) _) _
  simp only [World.size_alloc] at Q0
  refine (cnew_any A c n _ _ (H.out.below L0) (by simp [manB, HV.out, HP.out, HR.out])).mono ?_
  rintro e w1 ⟨g, rfl, hg, C1, L1⟩
  simp only [World.size_alloc] at hg
  have D1 := Aside0.mk (DS.mk (P0.below L1) (Q0.below L1) C1 (below_then L0 L0.size L1) (by omega) (fun u hu x e => by subst e; simp at hu))
  clear P0 Q0 L0 L1 H C1 hg
  go_wp2_with fail
  refine (taken_any g _ [67, 83, 75, 49] _ 4 _ D1.out.hc rfl rfl).mono ?_
  rintro e w2 ⟨va, rfl, S2, C2, G2⟩
  have D2 := Aside0.mk (D1.out.cur G2 C2)
  obtain ⟨B2, c2, rfl⟩ := S2.is
  obtain ⟨ad, rfl, hc2⟩ := S2.cell (by decide)
  have hconv : (convert 25 9 (.slice (some ad) 4 c2)).run Tryz.prog w2 = .ok (.string ⟨#[67, 83, 75, 49]⟩) w2 := run_convert_bytes_back (P := Tryz.prog) w2 25 9 5 ad c2 ([67, 83, 75, 49] : List UInt8) Tryz.underlying25 Tryz.underlying5 Tryz.underlying9 (fun j hj => by
    rw [hc2 j hj]
    match j, hj with
    | 0, _ => rfl
    | 1, _ => rfl
    | 2, _ => rfl
    | 3, _ => rfl)
  clear hc2 S2 G2 C2 D1
  go_wp2_with fail
  refine (unless_ok _ _).mono ?_
  rintro e w3 ⟨rfl, rfl⟩
  clear hconv
  go_wp2_with fail
  refine (cfixed_any g v _ _ D2.out.hc HV.out).mono ?_
  rintro e w3 ⟨rfl, C3, G3⟩
  have D3 := Aside0.mk (D2.out.cur G3 C3)
  rw [H1.out]
  have hc0 := D3.out.hb.cell 0
  have hf0 := D3.out.hb.frozen 0
  clear G3 C3 D2
  go_wp2_with fail
  refine (gotn_ok _ _).mono ?_
  rintro e w4 ⟨rfl, rfl⟩
  go_wp2_with fail
  refine (unless_ok _ _).mono ?_
  rintro e w4 ⟨rfl, rfl⟩
  go_wp2_with fail
  have D4 := Aside0.mk (D3.out.put 0 (.int .u64 1) (fun x e => by cases e))
  clear hc0 hf0 D3
  refine (taken_any g _ p _ 32 _ D4.out.hc rfl (by rw [HP.out]; rfl)).mono ?_
  rintro e w5 ⟨vp, rfl, S5, C5, G5⟩
  have D5 := Aside0.mk (D4.out.cur G5 C5)
  obtain ⟨A5, c5, rfl⟩ := S5.is
  replace S5 := Aside0.mk S5
  have hc1 := D5.out.hb.cell 1
  have hf1 := D5.out.hb.frozen 1
  clear G5 C5 D4
  go_wp2_with fail
  have D6 := Aside0.mk (D5.out.put 1 _ S5.out.noB)
  have S6 := Aside0.mk (D5.out.keep 1 (.slice A5 p.length c5) S5.out)
  clear hc1 hf1 S5 D5
  refine (tenants_none g _ _ D6.out.hc (by rw [List.length_cons, HR.out]; omega)).mono ?_
  rintro e w7 ⟨rfl, C7, G7⟩
  have S7 := Aside0.mk (D6.out.hc.keep G7 S6.out)
  have D7 := Aside0.mk (D6.out.cur G7 C7)
  clear G7 C7 S6 D6
  go_wp2_with fail
  refine (entries_none g _ _ _ _ _ D7.out.hc (by rw [HR.out]; omega)).mono ?_
  rintro e w8 ⟨rfl, C8, G8⟩
  have S8 := Aside0.mk (D7.out.hc.keep G8 S7.out)
  have D8 := Aside0.mk (D7.out.cur G8 C8)
  have hc2 := D8.out.hb.cell 2
  have hf2 := D8.out.hb.frozen 2
  clear G8 C8 S7 D7
  go_wp2_with fail
  have D9 := Aside0.mk (D8.out.put 2 (.slice none 0 0) (fun x e => by cases e))
  have S9 := Aside0.mk (D8.out.keep 2 (.slice none 0 0) S8.out)
  clear hc2 hf2 S8 D8
  refine (taken_any g _ r [] 32 _ D9.out.hc (by simp) (by rw [HR.out]; rfl)).mono ?_
  rintro e wa ⟨vr, rfl, Ra, Ca, Ga⟩
  have Sa := Aside0.mk (D9.out.hc.keep Ga S9.out)
  have Da := Aside0.mk (D9.out.cur Ga Ca)
  obtain ⟨Ar, cr, rfl⟩ := Ra.is
  replace Ra := Aside0.mk Ra
  have hc3 := Da.out.hb.cell 3
  have hf3 := Da.out.hb.frozen 3
  clear Ga Ca S9 D9
  go_wp2_with fail
  have Db := Aside0.mk (Da.out.put 3 _ Ra.out.noB)
  have Sb := Aside0.mk (Da.out.keep 3 (.slice Ar r.length cr) Sa.out)
  have Rb := Aside0.mk (Da.out.keep 3 (.slice Ar r.length cr) Ra.out)
  clear hc3 hf3 Sa Ra Da
  refine (cend_any g _ Db.out.hc).mono ?_
  rintro e wc ⟨rfl, rfl⟩
  go_wp2_with fail
  refine (must_ok _).mono ?_
  rintro e wc ⟨rfl, rfl⟩
  generalize wa.setCell ⟨w.heap.size, 3, none⟩ (.slice Ar r.length cr) = wb at Db Sb Rb ⊢
  have hc2 : wb.cell? ⟨w.heap.size, 2, none⟩ = some (.slice none 0 0) := Db.out.hb.cell 2
  go_wp2_with fail
  refine (directory_none _).mono ?_
  rintro e wd ⟨bm, rfl, Ld⟩
  have Dd := Aside0.mk (Db.out.low Ld)
  have Sd := Aside0.mk (Sb.out.below Ld)
  have Rd := Aside0.mk (Rb.out.below Ld)
  clear hc2 Ld Db Sb Rb
  go_wp2_with fail
  refine (unless_ok _ _).mono ?_
  rintro e we ⟨rfl, hwe⟩
  subst hwe
  have hc0 : we.cell? ⟨w.heap.size, 0, none⟩ = some (.int .u64 1) := Dd.out.hb.cell 0
  have hc1 : we.cell? ⟨w.heap.size, 1, none⟩ = some (.slice A5 p.length c5) := Dd.out.hb.cell 1
  have hc2 : we.cell? ⟨w.heap.size, 2, none⟩ = some (.slice none 0 0) := Dd.out.hb.cell 2
  have hc3 : we.cell? ⟨w.heap.size, 3, none⟩ = some (.slice Ar r.length cr) := Dd.out.hb.cell 3
  have hf0 := Dd.out.hb.frozen 0
  have hf1 := Dd.out.hb.frozen 1
  have hf2 := Dd.out.hb.frozen 2
  have hf3 := Dd.out.hb.frozen 3
  have he0 : we.cell? ⟨w.heap.size + 1, 0, none⟩ = some (.int .i64 0) := Dd.out.he.cell 0
  have he1 := Dd.out.he.frozen 0
  go_wp2
  clear hc0 hc1 hc2 hc3 hf0 hf1 hf2 hf3 he0 he1
  have De := (((Dd.out.put 0 (.int .u64 1) (fun x e => by cases e)).put 1 (.slice A5 p.length c5) (fun x e => by cases e)).put 2 (.slice none 0 0) (fun x e => by cases e)).put 3 (.slice Ar r.length cr) (fun x e => by cases e)
  have Se := ((((Dd.out.put 0 (.int .u64 1) (fun x e => by cases e)).put 1 (.slice A5 p.length c5) (fun x e => by cases e)).put 2 (.slice none 0 0) (fun x e => by cases e)).keep 3 (.slice Ar r.length cr)
    (((Dd.out.put 0 (.int .u64 1) (fun x e => by cases e)).put 1 (.slice A5 p.length c5) (fun x e => by cases e)).keep 2 (.slice none 0 0) ((Dd.out.put 0 (.int .u64 1) (fun x e => by cases e)).keep 1 (.slice A5 p.length c5) (Dd.out.keep 0 (.int .u64 1) Sd.out))))
  have Re := ((((Dd.out.put 0 (.int .u64 1) (fun x e => by cases e)).put 1 (.slice A5 p.length c5) (fun x e => by cases e)).put 2 (.slice none 0 0) (fun x e => by cases e)).keep 3 (.slice Ar r.length cr)
    (((Dd.out.put 0 (.int .u64 1) (fun x e => by cases e)).put 1 (.slice A5 p.length c5) (fun x e => by cases e)).keep 2 (.slice none 0 0) ((Dd.out.put 0 (.int .u64 1) (fun x e => by cases e)).keep 1 (.slice A5 p.length c5) (Dd.out.keep 0 (.int .u64 1) Rd.out))))
  clear Dd Sd Rd
  generalize (((we.setCell ⟨w.heap.size, 0, none⟩ (.int .u64 1)).setCell ⟨w.heap.size, 1, none⟩ (.slice A5 p.length c5)).setCell ⟨w.heap.size, 2, none⟩ (.slice none 0 0)).setCell ⟨w.heap.size, 3, none⟩ (.slice Ar r.length cr) = wf at De Se Re ⊢
  have hb := De.hb.far (a := ⟨w.heap.size + 1, 0, none⟩) (by show w.heap.size ≠ w.heap.size + 1; omega) (.int .i64 0)
  have he := De.he.set 0 (.int .i64 0)
  have hw := grown_set wf (w.heap.size + 1) 0 (.int .i64 0)
  have hne : NoByte [Value.int .i64 0] := fun u hu x e => by subst e; simp at hu
  have Sf := Se.keepB De.he hne hw
  have Rf := Re.keepB De.he hne hw
  have Lf := De.hl.grown hw De.hl.size (fun k e => by have := Option.some.inj e; omega)
  clear De Se Re hw
  generalize wf.setCell ⟨w.heap.size + 1, 0, none⟩ (.int .i64 0) = wz at hb he Sf Rf Lf ⊢
  have hc0 : wz.cell? ⟨w.heap.size, 0, none⟩ = some (.int .u64 1) := hb.cell 0
  have hc1 : wz.cell? ⟨w.heap.size, 1, none⟩ = some (.slice A5 p.length c5) := hb.cell 1
  have hc2 : wz.cell? ⟨w.heap.size, 2, none⟩ = some (.slice none 0 0) := hb.cell 2
  have hc3 : wz.cell? ⟨w.heap.size, 3, none⟩ = some (.slice Ar r.length cr) := hb.cell 3
  have he0 : wz.cell? ⟨w.heap.size + 1, 0, none⟩ = some (.int .i64 0) := he.cell 0
  replace Sf := Aside0.mk Sf
  replace Rf := Aside0.mk Rf
  replace Lf := Aside0.mk Lf
  clear hb he hne hmf
  refine leaves_cons (f := 137) (args := #[.pointer (some ⟨w.heap.size, 0, none⟩), .pointer (some ⟨w.heap.size + 1, 0, none⟩)]) (by simp) (by simp [go_sem]) ?_
  refine (catch_idle _ _ _).mono ?_
  rintro e u' w'' ⟨rfl, rfl, rfl⟩
  simp [Leaves, settle, results, Tryz.results92, go_sem, hc0, hc1, hc2, hc3, he0]
  exact ⟨_, _, ⟨rfl, rfl⟩, Sf.out, Rf.out, Lf.out⟩
end Go.Proofs.YtkennblgbfhjiaaGreatDoor.Q
