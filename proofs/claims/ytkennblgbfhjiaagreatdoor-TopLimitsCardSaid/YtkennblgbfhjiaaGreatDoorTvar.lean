/- Numbers that a cursor reads: one of less than 128 in one byte; one of eight bytes. -/
import Derived.Test.YtkennblgbfhjiaaGreatDoorTcur
namespace Go.Proofs.YtkennblgbfhjiaaGreatDoor.Q
open Go.RowKit Go.Proofs.YtkennblgbfhjiaaGreatDoorW.PrintWords Go.Proofs.YtkennblgbfhjiaaGreatDoorW.PrintLast Go.Proofs.YtkennblgbfhjiaaGreatDoorW.PrintMore Go.Proofs.YtkennblgbfhjiaaGreatDoor.F Go.Proofs.YtkennblgbfhjiaaGreatDoor.H
attribute [local go_sem] max2_int min2_int max_two min_two max_three min_three max_four min_four
set_option linter.unusedVariables false
set_option linter.unusedSimpArgs false
theorem SL.cell {w : World} {A : Option Addr} {n c : Nat} {l : List Int} (h : SL w (.slice A n c) l) (hp : 0 < l.length) : ∃ a, A = some a ∧ ∀ j, j < l.length → w.cell? (a.add j) = some (.int .u8 (rd l j)) := by
  obtain ⟨r1, r2, r3⟩ := Kd.reads_of_C (enc := Value.int .u8) (d := (0 : Int)) (h1 := fun _ => rfl) h.C
  obtain ⟨a, e, hc⟩ := r3 (by have := h.len; omega)
  refine ⟨a, e, fun j hj => ?_⟩
  have := hc j (by have := h.len; omega)
  simpa [rd] using this
theorem vread_any (A : Option Addr) (n c : Nat) (x : Int) (l : List Int) (w : World) (h : SL w (.slice A n c) (x :: l)) (hx : x = 0 ∨ x = 110) (hl : 10 ≤ l.length) :
    Calls Tryz.prog 122 #[.slice A n c] w fun e w' => e = .returned (.tuple #[.int .u64 x, .int .i64 1, .int .i64 0]) ∧ w' = w := by
  obtain ⟨a, rfl, hc⟩ := h.cell (by simp)
  have hn := h.len
  have hcap := h.cap
  have h0 : w.cell? a = some (.int .u8 x) := by
    have := hc 0 (by simp)
    rwa [show a.add 0 = a by cases a; rfl] at this
  have hn' : 11 ≤ n := by simp at hn; omega
  have hcn : 11 ≤ c := by simp at hcap; omega
  have hnm : n ≤ 9223372036854775807 := by
    obtain ⟨r1, r2, r3⟩ := Kd.reads_of_C (enc := Value.int .u8) (d := (0 : Int)) (h1 := fun _ => rfl) h.C
    omega
  have q5 : max (10 : Int) 0 = 10 := by decide
  clear h hc hn hcap
  rcases hx with rfl | rfl
  all_goals
    go_enter Tryz.func122, Tryz.ntmps122
    go_wp2
    refine wp_loop_rounds 1 ?_
    rw [rounds_succ]
    go_wp2
    go_ret3
    exact ⟨by kernel_rfl, rfl⟩
theorem cvarint_any (g : Nat) (x : Int) (l : List Int) (w : World) (h : Cur w g (x :: l)) (hx : x = 0 ∨ x = 110) (hl : 10 ≤ l.length) :
    Calls Tryz.prog 79 #[.pointer (some ⟨g, 0, none⟩)] w fun e w' => e = .returned (.tuple #[.int .u64 x, .int .i64 0]) ∧ Cur w' g l ∧ w.grownBy w' (some g) := by
  obtain ⟨A, c, h1, h2, h3⟩ := h.out
  have hc := cell_of_one h1
  have H2 := Aside0.mk h2
  have HC := Aside0.mk h
  clear h h1 h2
  go_enter Tryz.func79, Tryz.ntmps79
  go_wp2_with fail
  refine (vread_any A _ c x l w H2.out hx hl).mono ?_
  rintro e w1 ⟨rfl, rfl⟩
  go_wp2_with fail
  refine (take_any g (x :: l) 1 _ HC.out (by simp)).mono ?_
  rintro e w2 ⟨v, rfl, s1, s2, s3⟩
  have S2 := Aside0.mk s2
  have S3 := Aside0.mk s3
  clear hc H2 HC s1 s2 s3
  go_wp2
  go_ret2
  exact ⟨rfl, S2.out, S3.out⟩
theorem left_at (g : Nat) (l : List Int) (n : Int) (w : World) (h : Cur w g l) (hn : (l.length : Int) = n) : Calls Tryz.prog 120 #[.pointer (some ⟨g, 0, none⟩)] w fun e w' => e = .returned (.int .i64 n) ∧ w' = w := by
  subst hn
  exact left_any g l w h
theorem take_at (g : Nat) (l a b : List Int) (n : Int) (w : World) (h : Cur w g l) (hl : l = a ++ b) (hn : n = a.length) : Calls Tryz.prog 121 #[.pointer (some ⟨g, 0, none⟩), .int .i64 n] w fun e w' => ∃ v, e = .returned v ∧ SL w' v a ∧ Cur w' g b ∧ w.grownBy w' (some g) := by
  subst hn hl
  have := take_any g (a ++ b) a.length w h (by simp)
  rwa [List.take_left, List.drop_left] at this
theorem cblock_any (g : Nat) (x : Int) (l : List Int) (m : Int) (w : World) (h : Cur w g (x :: l)) (hx : x = 110) (hl : l.length = 110) (hm : m = 268435456) :
    Calls Tryz.prog 91 #[.pointer (some ⟨g, 0, none⟩), .int .i64 m] w fun e w' => ∃ v, e = .returned (.tuple #[v, .int .i64 0]) ∧ SL w' v l ∧ Cur w' g [] ∧ w.grownBy w' (some g) := by
  subst hx hm
  obtain ⟨A, c, h1, h2, h3⟩ := h.out
  have hc := cell_of_one h1
  have H2 := Aside0.mk h2
  have HC := Aside0.mk h
  have HL := Aside0.mk hl

  clear h h1 h2 hl
  go_enter Tryz.func91, Tryz.ntmps91
  go_wp2_with fail
  refine (vread_any A _ c 110 l w H2.out (.inr rfl) (by have := HL.out; omega)).mono ?_
  rintro e w1 ⟨rfl, rfl⟩
  go_wp2_with fail
  refine (left_at g _ 111 _ HC.out (by rw [List.length_cons, HL.out]; rfl)).mono ?_
  rintro e w1 ⟨rfl, rfl⟩
  go_wp2_with fail
  refine (take_at g (110 :: l) [110] l 1 _ HC.out rfl rfl).mono ?_
  rintro e w2 ⟨v, rfl, s1, s2, s3⟩
  have S2 := Aside0.mk s2
  have S3 := Aside0.mk s3
  clear hc H2 HC s1 s2 s3
  go_wp2_with fail
  refine (take_at g l l [] 110 _ S2.out (by simp) (by rw [HL.out]; rfl)).mono ?_
  rintro e w3 ⟨v3, rfl, s1, s2, s3⟩
  have S4 := Aside0.mk s1
  have S5 := Aside0.mk s2
  have S6 := Aside0.mk (grown_trans S3.out s3)
  clear s1 s2 s3 S2 S3
  go_wp2
  go_ret2
  exact ⟨_, rfl, S4.out, S5.out, S6.out⟩
/-- A number of eight bytes. -/
def beV (l : List Int) : Int := l.foldl (fun v x => Go.bits .or .u64 (IntKind.u64.wrap (v * 256)) (IntKind.u64.wrap x)) 0
theorem beV_snoc (l : List Int) (x : Int) : beV (l ++ [x]) = Go.bits .or .u64 (IntKind.u64.wrap (beV l * 256)) (IntKind.u64.wrap x) := by simp [beV]
theorem beV_take (a : List Int) (k : Nat) (h : k < a.length) : beV (a.take (k + 1)) = Go.bits .or .u64 (IntKind.u64.wrap (beV (a.take k) * 256)) (IntKind.u64.wrap (rd a (k : Nat))) := by
  have e : rd a (k : Nat) = a[k] := by simp [rd, List.getD_eq_getElem?_getD, h]
  have e1 : a.take (k + 1) = a.take k ++ [a[k]] := by rw [List.take_add_one, List.getElem?_eq_getElem h]; rfl
  rw [e, e1, beV_snoc]
theorem cfixed_any (g : Nat) (a b : List Int) (w : World) (h : Cur w g (a ++ b)) (ha : a.length = 8) :
    Calls Tryz.prog 71 #[.pointer (some ⟨g, 0, none⟩), .int .i64 8] w fun e w' => e = .returned (.tuple #[.int .u64 (beV a), .int .i64 0]) ∧ Cur w' g b ∧ w.grownBy w' (some g) := by
  have HC := Aside0.mk h
  have HA := Aside0.mk ha
  clear h ha
  go_enter Tryz.func71, Tryz.ntmps71
  go_wp2_with fail
  refine (cbytes_any g (a ++ b) 8 _ HC.out (by rw [List.length_append, HA.out]; omega)).mono ?_
  rintro e w2 ⟨v, rfl, s1, s2, s3⟩
  rw [← HA.out, List.take_left] at s1
  rw [← HA.out, List.drop_left] at s2
  obtain ⟨A, c, rfl⟩ := s1.is
  obtain ⟨ad, rfl, hc⟩ := s1.cell (by have := HA.out; omega)
  have e8 := HA.out
  rw [e8] at hc ⊢
  have C := Aside0.mk hc
  have S2 := Aside0.mk s2
  have S3 := Aside0.mk s3
  clear s1 s2 s3 HC hc e8
  go_wp2
  go_loop [8, 10, 21] (fun v _ i => ∃ k : Nat, k ≤ 8 ∧ v = .int .u64 (beV (a.take k)) ∧ i = .int .i64 k) (fun _ _ i => 8 - (intOf i).toNat)
  case atStart => exact ⟨0, by omega, rfl, rfl⟩
  case round =>
    obtain ⟨k, hk, rfl, rfl⟩ := hrel
    by_cases hlt : k < 8
    · have hcell := C.out k (by have := HA.out; omega)
      have hs := Aside0.mk (beV_take a k (by have := HA.out; omega))
      go_wp2
      refine ⟨⟨k + 1, by omega, by rw [hs.out], by go_num⟩, by simp [intOf]; omega⟩
    · have q0 : ((k : Int) < 8) = False := eq_false (by omega)
      have hk8 := Aside0.mk (show 8 ≤ k by omega)
      clear hlt
      go_wp2
      go_ret2
      exact ⟨by rw [List.take_of_length_le (by have := HA.out; have := hk8.out; omega)]; rfl, S2.out, S3.out⟩
end Go.Proofs.YtkennblgbfhjiaaGreatDoor.Q
