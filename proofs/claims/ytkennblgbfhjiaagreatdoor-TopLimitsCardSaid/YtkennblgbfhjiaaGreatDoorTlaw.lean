/- TopLimits walked: whatever the numbers, it answers true. -/
import Derived.Test.YtkennblgbfhjiaaGreatDoorTtop
namespace Go.Proofs.YtkennblgbfhjiaaGreatDoor.Q
open Go.RowKit Go.Proofs.YtkennblgbfhjiaaGreatDoorW.PrintWords Go.Proofs.YtkennblgbfhjiaaGreatDoorW.PrintLast Go.Proofs.YtkennblgbfhjiaaGreatDoorW.PrintMore Go.Proofs.YtkennblgbfhjiaaGreatDoor.F Go.Proofs.YtkennblgbfhjiaaGreatDoor.H
set_option linter.unusedVariables false
set_option linter.unusedSimpArgs false
theorem and_63 (n : Int) : 0 ≤ Go.bits .and .i64 n 63 ∧ Go.bits .and .i64 n 63 < 64 := by
  have h6 : (BitVec.ofInt 64 63).toNat = 2 ^ 6 - 1 := by decide
  have key : (BitVec.ofInt 64 n &&& BitVec.ofInt 64 63).toNat = (n % ((2 ^ 64 : Nat) : Int)).toNat % 2 ^ 6 := by
    rw [BitVec.toNat_and, BitVec.toNat_ofInt, h6, Nat.and_two_pow_sub_one_eq_mod]
  have h : Go.bits .and .i64 n 63 = IntKind.i64.wrap ((BitVec.ofInt 64 n &&& BitVec.ofInt 64 63).toNat : Nat) := rfl
  rw [h, key, IntKind.wrap_i64]
  omega
/-- A text of bytes 0. -/
def zeroS (k : Nat) : ByteArray := ⟨(List.replicate k (0 : UInt8)).toArray⟩
theorem zeroS_size (k : Nat) : (zeroS k).size = k := by
  show (List.replicate k (0 : UInt8)).toArray.size = k
  simp
theorem conv_zeros {w : World} {A : Option Addr} {n c k : Nat} (h : SL w (.slice A n c) (List.replicate k 0)) (hk : 0 < k) : (convert 25 9 (.slice A n c)).run Tryz.prog w = .ok (.string (zeroS k)) w := by
  obtain ⟨a, rfl, hc⟩ := h.cell (by simpa using hk)
  obtain rfl := h.len
  have := run_convert_bytes_back (P := Tryz.prog) w 25 9 5 a c (List.replicate k (0 : UInt8)) Tryz.underlying25 Tryz.underlying5 Tryz.underlying9 (fun j hj => by
    rw [hc j (by simpa using hj)]
    simp at hj
    simp [rd, hj])
  rw [List.length_replicate] at this ⊢
  exact this
set_option maxHeartbeats 8000000 in
set_option maxRecDepth 100000 in
theorem limits_any (s n : Int) (w : World) : Calls Tryz.prog 4 #[.int .i64 s, .int .i64 n] w fun e w' => e = .returned (.bool true) ∧ Below w.heap.size w w' := by
  obtain ⟨q0, q1⟩ := and_63 n
  obtain ⟨q, hq⟩ : ∃ q, Go.bits .and .i64 n 63 = q := ⟨_, rfl⟩
  rw [hq] at q0 q1
  go_enter Tryz.func4, Tryz.ntmps4
  go_wp2_with fail
  refine (awake_any _).mono ?_
  rintro e w1 ⟨rfl, l1⟩
  have L1 := Aside0.mk l1
  clear l1
  go_wp2_with fail
  refine (key_any s _).mono ?_
  rintro e w2 ⟨A, c, rfl, s2, l1⟩
  have L2 := Aside0.mk (below_then L1.out L1.out.size l1)
  have S2 := Aside0.mk s2
  clear s2 l1 L1
  go_wp2_with ((with_reducible refine gate_dst (N := 26) rfl ?_); refine Kd.R_make (Kd.int .u8) (w0 := w2) w2.heap.size 5 rfl (N := 26) rfl 25 _ _ rfl (65 + q) rfl rfl Tryz.underlying25 (.int .u8 0) 1 info5 rfl (by decide) (by omega) 0 (ok := fun _ => True) (okp := fun _ => True) rfl (fun _ hk => hk) trivial (by omega) (by omega) (Below.refl _ _) (Nat.le_refl _) ?_; intro v3 w3 h1 h2 h3 h4; have Z3 := SL.of_R h1; obtain ⟨A3, c3, rfl⟩ := Z3.is; have hconv := conv_zeros Z3 (by omega); rw [List.length_replicate] at hconv; have L3 := Aside0.mk (below_then L2.out L2.out.size h2); have S3 := Aside0.mk (S2.out.below h2); clear h1 h2 h3 h4 L2 S2 Z3)
  have hz := zeroS_size (65 + q).toNat
  have hzl : 64 < (zeroS (65 + q).toNat).size := by rw [hz]; omega
  generalize zeroS (65 + q).toNat = zs at hz hzl ⊢
  clear hz hconv hq
  have l2 : Below w3.heap.size w3 (w3.alloc (.cells #[.string zs, .slice none 0 0] 32)) := below_alloc (Below.refl _ _) _
  have C4 := Bk.at0 w3 32 [.string zs, .slice none 0 0] _ rfl
  have S4 := S3.out.below l2
  have L4 := Aside0.mk (below_then L3.out L3.out.size l2)
  refine (build_long A c w3.heap.size (keyB s) zs _ S4 C4 hzl).mono ?_
  rintro e w4 ⟨rfl, l1⟩
  have L5 := Aside0.mk (below_then L4.out L4.out.size l1)
  have S5 := Aside0.mk (S4.below l1)
  clear l1 l2 C4 S4 L4 S3 L3 hzl
  go_wp2_with fail
  have hcap : 32 ≤ c := by have := S5.out.cap; rwa [keyB_length] at this
  have p1 : ¬ ((c : Int) < 31) := by omega
  have p2 : (31 : Int) ≤ c := by omega
  have p3 : ¬ ((c : Int) < 7) := by omega
  have p4 : (7 : Int) ≤ c := by omega
  have l2 : Below w4.heap.size w4 (w4.alloc (.cells #[.int .u64 0, .slice none 0 0] 43)) := below_alloc (Below.refl _ _) _
  have S6 := S5.out.below l2
  have L6 := below_then L5.out L5.out.size l2
  generalize w4.alloc (.cells #[.int .u64 0, .slice none 0 0] 43) = w5 at S6 L6 ⊢
  refine (build_latest A c (keyB s) _).mono ?_
  rintro e w6 ⟨rfl, l1⟩
  have S7 := Aside0.mk (S6.below l1)
  have L7 := Aside0.mk (below_then L6 L6.size l1)
  clear l1 l2 S6 L6 S5 L5
  go_wp2_with fail
  have l2 : Below w6.heap.size w6 (w6.alloc (.cells #[.int .u64 0, .slice none 0 0] 43)) := below_alloc (Below.refl _ _) _
  have S8 := S7.out.below l2
  have L8 := below_then L7.out L7.out.size l2
  generalize w6.alloc (.cells #[.int .u64 0, .slice none 0 0] 43) = w7 at S8 L8 ⊢
  refine (build_short A 31 c _ rfl).mono ?_
  rintro e w8 ⟨rfl, l1⟩
  have S9 := Aside0.mk (S8.below l1)
  have L9 := Aside0.mk (below_then L8 L8.size l1)
  clear l1 l2 S8 L8 S7 L7
  go_wp2_with fail
  have l2 : Below w8.heap.size w8 (w8.alloc (.cells #[.int .u64 0, .slice none 0 0] 43)) := below_alloc (Below.refl _ _) _
  have Sa := S9.out.below l2
  have La := below_then L9.out L9.out.size l2
  generalize w8.alloc (.cells #[.int .u64 0, .slice none 0 0] 43) = w9 at Sa La ⊢
  have hk := keyB_length s
  have Sb : SL w9 (.slice A 7 c) ((keyB s).take 7) := by
    have h := Sa
    rw [← hk] at h
    exact h.take 7 (by rw [hk]; decide)
  refine (build_root A A c c ((keyB s).take 7) _ Sb).mono ?_
  rintro e wb ⟨rfl, l1⟩
  have Lc := Aside0.mk (below_then La La.size l1)
  clear l1 l2 Sa Sb La S9 L9
  go_wp2
  go_ret
  exact ⟨rfl, below_alloc Lc.out _⟩
end Go.Proofs.YtkennblgbfhjiaaGreatDoor.Q
