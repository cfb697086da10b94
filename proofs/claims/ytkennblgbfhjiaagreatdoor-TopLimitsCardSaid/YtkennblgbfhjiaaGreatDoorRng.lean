/- A range over a function of one loop variable, where the iterator and the loop's body each hold memory of their own: its law, out of the library's equations on the loop's record. The loop's body goes on or breaks; it neither returns nor panics. -/
import Derived.RangeFuncNested
import Derived.RangeFuncBound
import Derived.RangeFuncCalls
import Derived.RangeFuncLeaves
import Derived.WalkKit
set_option linter.unusedVariables false
namespace Go.Proofs.YtkennblgbfhjiaaGreatDoor.H
open Go.RowKit
/-- How a round is left: it goes on, or it breaks. -/
def roundWay (B : Nat) (on : World → Prop) (off : Nat → World → Prop) (W : World) : Exit → Act → World → Prop
  | .normal, _, W' => KeepsFrom B W W' ∧ on W'
  | .exit id, _, W' => KeepsFrom B W W' ∧ off id W'
  | _, _, _ => False
/-- What an iterator is asked: it begins where J 0 holds, hands a round its value where Px holds, is told in which way the round ended. -/
def Feeds (m n : Nat) (P : Program) (gf : Nat) (lb : Array Value) (Px : Nat → Value → World → World → Prop) (Rx : Nat → Value → World → Prop) (w : World) : Prop :=
  ∀ (l : Nat) (J : Nat → World → Prop) (Jx : World → Prop) (W : World), Below w.heap.size w W →
    (∀ i A B, J i A → Below A.heap.size A B → J i B) →
    (∀ i v W0 W1, J i W0 → Px i v W0 W1 → YieldAt Fence.wide m P l #[v] W1 fun e W' => (e = .returned (.bool true) ∧ J (i + 1) W' ∧ Rx i v W') ∨ (e = .returned (.bool false) ∧ Jx W')) →
    J 0 W → CallsIn Fence.wide n P gf (#[.func (.yield l) #[] #[]] ++ lb) W fun e W' => (∃ v, e = .returned v) ∧ Jx W'
theorem wp_range {P : Program} {m n : Nat} {g : Operand} {p : Tmp} {assign body : Code} {Q : Exit → Act → World → Prop} {a : Act} {w : World} {gf : Nat} {lb : Array Value}
    (hg : a.eval g = .func (.func gf) #[] lb) (eg : ∀ args w, (callFunc gf args).run P w = .ok (.enter gf args) w)
    (Px : Nat → Value → World → World → Prop) (Rx Bx : Nat → Value → World → Prop) (I : Nat → World → Prop) (Ix : Nat → World → Prop)
    (hseq : Feeds m (n - 1) P gf lb Px Rx w)
    (hIb : ∀ i A B, I i A → Below A.heap.size A B → I i B) (hI : OwnFrom w.heap.size I) (hIx : OwnFrom w.heap.size Ix)
    (hB : ∀ i v, OwnFrom w.heap.size (fun (_ : Unit) => Bx i v)) (hR : ∀ i v, OwnFrom w.heap.size (fun (_ : Unit) => Rx i v))
    (hP : ∀ i v W0 W1, Px i v W0 W1 → Below W0.heap.size W0 W1) (hPB : ∀ i v W0 W1, w.heap.size ≤ W0.heap.size → I i W0 → Px i v W0 W1 → Bx i v W1)
    (h0 : I 0 w) (a₁ : Value → Act)
    (hassign : ∀ (l : Nat) (v : Value) (W : World) (K : Act → World → Prop), K (a₁ v) W →
      assign.wpIn (Fence.wide.inRound l) m P (Exit.then K (fun _ _ _ => False)) { tmps := a.tmps.setIfInBounds p v, defers := [] } W)
    (hbody : ∀ (l i : Nat) (v : Value) (W : World), w.heap.size ≤ W.heap.size → Bx i v W → body.wpIn (Fence.wide.inRound l) m P (roundWay w.heap.size (fun W' => I (i + 1) W' ∧ Rx i v W') Ix W) (a₁ v) W)
    (hstop : ∀ (D id : Nat) (W : World), w.heap.size ≤ D → Ix id W → W.heap[D]? = some (.deferred (some [])) → (Code.exit id).wpIn Fence.wide n P Q { a with defers := { target := .collected D, args := #[] } :: a.defers } W) :
    (Code.rangeFunc g #[p] assign body).wpIn Fence.wide n P Q a w := by
  refine wpIn_rangeFunc ?_
  intro fn _
  obtain ⟨rec, hrec⟩ : ∃ rec : LoopState → Option Code → Loop, rec = fun st pe => { state := st, pending := pe, fn, tmps := a.tmps, params := #[p], assign, body, defers := w.heap.size } := ⟨_, rfl⟩
  have eR : ∀ st pe, (rec st pe).state = st := fun st pe => by rw [hrec]
  have eT : ∀ st pe st', { rec st pe with state := st' } = rec st' pe := fun st pe st' => by rw [hrec]
  have eU : ∀ st pe st' pe', { rec st pe with state := st', pending := pe' } = rec st' pe' := fun st pe st' pe' => by rw [hrec]
  have hnew := run_enterLoop_outer (P := P) (w := w) fn a.tmps #[p] assign body
  have e1 : ({ state := .ready, pending := none, fn, tmps := a.tmps, params := #[p], assign, body, defers := w.heap.size } : Loop) = rec .ready none := by rw [hrec]
  rw [e1] at hnew
  obtain ⟨W1, hW1⟩ : ∃ W1, (w.alloc (.deferred (some []))).alloc (.loop (rec .ready none)) = W1 := ⟨_, rfl⟩
  rw [hW1] at hnew
  have hs1 : W1.heap.size = w.heap.size + 2 := by rw [← hW1]; simp
  have hb1 : Below w.heap.size w W1 := by rw [← hW1]; exact ((Below.refl _ w).alloc (Nat.le_refl _) _).alloc (by simp) _
  have hL1 : W1.heap[w.heap.size + 1]? = some (.loop (rec .ready none)) := by
    rw [← hW1]; have := World.alloc_heap_new (w.alloc (.deferred (some []))) (.loop (rec .ready none)); rwa [World.size_alloc] at this
  have hK1 : W1.heap[w.heap.size]? = some (.deferred (some [])) := by
    rw [← hW1]; exact (Below.heap_alloc _ _ _ (by simp)).trans (World.alloc_heap_new w _)
  have hI1 : I 0 W1 := hIb _ _ _ h0 hb1
  refine ⟨w.heap.size + 1, [{ target := .collected w.heap.size, args := #[] }], W1, { target := .fn (.func gf) lb, args := #[.func (.yield (w.heap.size + 1)) #[] #[]] }, W1, gf,
    #[.func (.yield (w.heap.size + 1)) #[] #[]] ++ lb, W1, hnew, ?_, fun _ _ => trivial, ?_, (fun h => by cases h), ?_⟩
  · simp only [resolve, hg]
    simp [go_sem]
  · simp [invoke, go_sem, eg]
  · have lt_of : ∀ {A : World} {k : Nat} {o : Obj}, A.heap[k]? = some o → k < A.heap.size := fun h => (Array.getElem?_eq_some_iff.1 h).1
    have kept : ∀ {A B : World} {k : Nat} {o : Obj}, Below A.heap.size A B → A.heap[k]? = some o → B.heap[k]? = some o := fun hb h => (hb.block _ (lt_of h)).trans h
    refine (hseq (w.heap.size + 1)
      (fun i W => I i W ∧ W.heap[w.heap.size + 1]? = some (.loop (rec .ready none)) ∧ W.heap[w.heap.size]? = some (.deferred (some [])))
      (fun W => ∃ id, Ix id W ∧ W.heap[w.heap.size + 1]? = some (.loop (rec .done (some (.exit id)))) ∧ W.heap[w.heap.size]? = some (.deferred (some [])))
      W1 hb1 (fun i A B h hb => ⟨hIb _ _ _ h.1 hb, kept hb h.2.1, kept hb h.2.2⟩) ?_ ⟨hI1, hL1, hK1⟩).mono ?_
    · rintro i v W0 W2 ⟨hi, hl0, hk0⟩ hp
      have hb := hP _ _ _ _ hp
      have hl := kept hb hl0
      have hk := kept hb hk0
      have hbx := hPB _ _ _ _ (by have := lt_of hk0; omega) hi hp
      have hlt := lt_of hl
      have hy := run_yield (P := P) (args := #[v]) hl (by rw [hrec]; rfl)
      refine ⟨fn, a.tmps.setIfInBounds p v, assign, body, ?_, roundIn_of_wpIn trivial (hassign _ v W2 _ ⟨_, run_beginRound hl (eR _ _), ?_⟩)⟩
      · rw [hy, hrec]; simp
      rw [eT]
      have hl2 : (W2.putObj (w.heap.size + 1) (.loop (rec .busy none))).heap[w.heap.size + 1]? = some (.loop (rec .busy none)) := World.putObj_heap_same hlt
      have hk2 : (W2.putObj (w.heap.size + 1) (.loop (rec .busy none))).heap[w.heap.size]? = some (.deferred (some [])) := (World.putObj_heap_other (by omega)).trans hk
      have fin : ∀ (jump : Option Code) (W3 : World), KeepsFrom w.heap.size (W2.putObj (w.heap.size + 1) (.loop (rec .busy none))) W3 →
          (Instr.endRound (w.heap.size + 1) jump).run P W3 = .ok (.bool jump.isNone) (W3.putObj (w.heap.size + 1) (.loop (rec (if jump.isNone then .ready else .done) jump))) ∧
          W3.heap[w.heap.size + 1]? = some (.loop (rec .busy none)) ∧
          (W3.putObj (w.heap.size + 1) (.loop (rec (if jump.isNone then .ready else .done) jump))).heap[w.heap.size + 1]? = some (.loop (rec (if jump.isNone then .ready else .done) jump)) ∧
          (W3.putObj (w.heap.size + 1) (.loop (rec (if jump.isNone then .ready else .done) jump))).heap[w.heap.size]? = some (.deferred (some [])) := fun jump W3 hk3 => by
        have hl3 := hk3.same _ _ (by omega) hl2 rfl
        have h3 := run_endRound (P := P) jump hl3
        rw [eU] at h3
        exact ⟨h3, hl3, World.putObj_heap_same (lt_of hl3), (World.putObj_heap_other (by omega)).trans (hk3.same _ _ (Nat.le_refl _) hk2 rfl)⟩
      refine wpIn_mono (hbody _ i v _ (by simp; have := lt_of hk; omega) ((hB i v).putObj (s := ()) _ hbx (by omega) hl rfl)) ?_
      rintro e a3 W3 hp3
      cases e with
      | normal =>
        obtain ⟨hk3, hi3, hr3⟩ := hp3
        obtain ⟨hr, hl3, hl4, hk4⟩ := fin none W3 hk3
        exact ⟨_, _, hr, .inl ⟨rfl, ⟨hI.putObj _ hi3 (by omega) hl3 rfl, hl4, hk4⟩, (hR i v).putObj (s := ()) _ hr3 (by omega) hl3 rfl⟩⟩
      | exit id =>
        obtain ⟨hk3, hi3⟩ := hp3
        obtain ⟨hr, hl3, hl4, hk4⟩ := fin (some (.exit id)) W3 hk3
        exact ⟨_, _, hr, .inr ⟨rfl, id, hIx.putObj _ hi3 (by omega) hl3 rfl, hl4, hk4⟩⟩
      | ret => exact hp3.elim
      | goto t => exact hp3.elim
      | panic ch => exact hp3.elim
      | outgrown => exact hp3.elim
    · rintro e W2 ⟨⟨v, rfl⟩, id, hi, hl, hk⟩
      have h4 := run_endLoop (P := P) hl (by rw [eR]; simp)
      rw [eT] at h4
      have e2 : (rec LoopState.done (some (.exit id))).pending = some (.exit id) := by rw [hrec]
      rw [e2] at h4
      exact ⟨some (.exit id), _, h4, hstop _ id _ (Nat.le_refl _) (hIx.putObj _ hi (by omega) hl rfl) ((World.putObj_heap_other (by omega)).trans hk)⟩
end Go.Proofs.YtkennblgbfhjiaaGreatDoor.H
