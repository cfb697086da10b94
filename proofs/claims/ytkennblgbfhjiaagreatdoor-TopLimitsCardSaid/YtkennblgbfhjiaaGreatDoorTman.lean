/- A manifest without entries, read: the parts. -/
import Derived.Test.YtkennblgbfhjiaaGreatDoorTvar
namespace Go.Proofs.YtkennblgbfhjiaaGreatDoor.Q
open Go.RowKit Go.Proofs.YtkennblgbfhjiaaGreatDoorW.PrintWords Go.Proofs.YtkennblgbfhjiaaGreatDoorW.PrintLast Go.Proofs.YtkennblgbfhjiaaGreatDoorW.PrintMore Go.Proofs.YtkennblgbfhjiaaGreatDoor.F Go.Proofs.YtkennblgbfhjiaaGreatDoor.H
set_option linter.unusedVariables false
set_option linter.unusedSimpArgs false
theorem must_ok (w : World) : Calls Tryz.prog 143 #[.int .i64 0] w fun e w' => e = .returned (.tuple #[]) ∧ w' = w := by
  go_enter Tryz.func143, Tryz.ntmps143
  go_wp2
  go_end0
  exact ⟨rfl, rfl⟩
theorem unless_ok (k : Int) (w : World) : Calls Tryz.prog 138 #[.bool true, .int .i64 k] w fun e w' => e = .returned (.tuple #[]) ∧ w' = w := by
  go_enter Tryz.func138, Tryz.ntmps138
  go_wp2
  go_end0
  exact ⟨rfl, rfl⟩
theorem gotn_ok (v : Value) (w : World) : Calls Tryz.prog 140 #[v, .int .i64 0] w fun e w' => e = .returned v ∧ w' = w := by
  go_enter Tryz.func140, Tryz.ntmps140
  go_wp2_with fail
  refine (must_ok w).mono ?_
  rintro e w' ⟨rfl, rfl⟩
  go_wp2
  go_ret
  exact ⟨rfl, rfl⟩
theorem gotb_ok (v : Value) (w : World) : Calls Tryz.prog 189 #[v, .int .i64 0] w fun e w' => e = .returned v ∧ w' = w := by
  go_enter Tryz.func189, Tryz.ntmps189
  go_wp2_with fail
  refine (must_ok w).mono ?_
  rintro e w' ⟨rfl, rfl⟩
  go_wp2
  go_ret
  exact ⟨rfl, rfl⟩
theorem taken_any (g : Nat) (l a b : List Int) (n : Int) (w : World) (h : Cur w g l) (hl : l = a ++ b) (hn : n = a.length) : Calls Tryz.prog 139 #[.pointer (some ⟨g, 0, none⟩), .int .i64 n] w fun e w' => ∃ v, e = .returned v ∧ SL w' v a ∧ Cur w' g b ∧ w.grownBy w' (some g) := by
  subst hn hl
  have HC := Aside0.mk h
  clear h
  go_enter Tryz.func139, Tryz.ntmps139
  go_wp2_with fail
  refine (cbytes_any g (a ++ b) a.length _ HC.out (by simp)).mono ?_
  rintro e w2 ⟨v, rfl, s1, s2, s3⟩
  rw [List.take_left] at s1
  rw [List.drop_left] at s2
  have S1 := Aside0.mk s1
  have S2 := Aside0.mk s2
  have S3 := Aside0.mk s3
  clear s1 s2 s3 HC
  go_wp2_with fail
  refine (gotb_ok _ _).mono ?_
  rintro e w' ⟨rfl, rfl⟩
  go_wp2
  go_ret
  exact ⟨_, rfl, S1.out, S2.out, S3.out⟩
theorem counted_any (g : Nat) (l : List Int) (w : World) (h : Cur w g (0 :: l)) (hl : 10 ≤ l.length) : Calls Tryz.prog 190 #[.pointer (some ⟨g, 0, none⟩)] w fun e w' => e = .returned (.int .i64 0) ∧ Cur w' g l ∧ w.grownBy w' (some g) := by
  have HC := Aside0.mk h
  clear h
  go_enter Tryz.func190, Tryz.ntmps190
  go_wp2_with fail
  refine (cvarint_any g 0 l _ HC.out (.inl rfl) hl).mono ?_
  rintro e w2 ⟨rfl, s2, s3⟩
  have S2 := Aside0.mk s2
  have S3 := Aside0.mk s3
  clear s2 s3 HC
  go_wp2_with fail
  refine (gotn_ok _ _).mono ?_
  rintro e w' ⟨rfl, rfl⟩
  go_wp2_with fail
  refine (unless_ok _ _).mono ?_
  rintro e w' ⟨rfl, rfl⟩
  go_wp2
  go_ret
  exact ⟨rfl, S2.out, S3.out⟩
theorem tenants_none (g : Nat) (l : List Int) (w : World) (h : Cur w g (0 :: l)) (hl : 10 ≤ l.length) : Calls Tryz.prog 141 #[.pointer (some ⟨g, 0, none⟩)] w fun e w' => e = .returned (.slice none 0 0) ∧ Cur w' g l ∧ w.grownBy w' (some g) := by
  have HC := Aside0.mk h
  clear h
  go_enter Tryz.func141, Tryz.ntmps141
  go_wp2_with fail
  refine (counted_any g l _ HC.out hl).mono ?_
  rintro e w2 ⟨rfl, s2, s3⟩
  have S2 := Aside0.mk s2
  have S3 := Aside0.mk s3
  clear s2 s3 HC
  go_wp2
  refine wp_loop_rounds 1 ?_
  rw [rounds_succ]
  go_wp2
  go_ret
  exact ⟨rfl, S2.out, S3.out⟩
theorem entries_none (g : Nat) (l : List Int) (A : Option Addr) (n c : Nat) (w : World) (h : Cur w g (0 :: l)) (hl : 10 ≤ l.length) : Calls Tryz.prog 142 #[.pointer (some ⟨g, 0, none⟩), .slice A n c] w fun e w' => e = .returned (.slice none 0 0) ∧ Cur w' g l ∧ w.grownBy w' (some g) := by
  have HC := Aside0.mk h
  clear h
  go_enter Tryz.func142, Tryz.ntmps142
  go_wp2_with fail
  refine (counted_any g l _ HC.out hl).mono ?_
  rintro e w2 ⟨rfl, s2, s3⟩
  have S2 := Aside0.mk s2
  have S3 := Aside0.mk s3
  clear s2 s3 HC
  go_wp2
  refine wp_loop_rounds 1 ?_
  rw [rounds_succ]
  go_wp2
  go_ret
  exact ⟨rfl, S2.out, S3.out⟩
end Go.Proofs.YtkennblgbfhjiaaGreatDoor.Q
