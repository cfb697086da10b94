import Derived.Test.YtgdogjnjbinoiaaDoorDshaX
import Derived.Test.YtgdogjnjbinoiaaDoorDshabX
import Derived.Test.YtgdogjnjbinoiaaDoorDmerkX
import Derived.Test.YtgdogjnjbinoiaaDoorHarr
import Derived.Test.YtgdogjnjbinoiaaDoorB3
namespace Go.Proofs.YtgdogjnjbinoiaaDoor.Q
open Go.RowKit Go.Proofs.YtgdogjnjbinoiaaDoorW.PrintWords Go.Proofs.YtgdogjnjbinoiaaDoorW.PrintLast Go.Proofs.YtgdogjnjbinoiaaDoorW.PrintMore Go.Proofs.YtgdogjnjbinoiaaDoor.H
set_option linter.unusedVariables false
set_option linter.unusedSimpArgs false
set_option maxHeartbeats 1000000 in
set_option maxRecDepth 100000 in
theorem bytes_any (s : List Int) (w : World) (hs : s.length = 8) :
    Calls Tryd.prog 57 #[.agg (nums .u32 s).toArray] w fun e w' =>
      ∃ v, e = .returned v ∧ Own w' w.heap.size 5 .u8 v (bytesN s 8) ∧ Below w.heap.size w w' := by
  have HS := Aside0.mk hs
  clear hs
  have hmk : ∀ w : World, (Instr.makeSlice 31 (.int .i64 0) (.int .i64 32)).run Tryd.prog w = .ok (.slice (some ⟨w.heap.size, 0, none⟩) 0 32) (w.alloc (.cells (nums .u8 (List.replicate 32 0)).toArray 5)) := fun _ => by kernel_rfl
  go_enter Tryd.func57, Tryd.ntmps57
  go_wp2_with (refine load_blk rfl _ _ rfl rfl ((Blk.at0 w 64 .u32 s _ rfl).alloc _) 8 62 (by kernel_rfl) (by kernel_rfl) HS.out ?_)
  have O0 := Aside0.mk (Own.room (w.alloc (.cells (nums .u32 s).toArray 64)) w.heap.size 5 .u8 32 (by simp) (by decide))
  have L0 := Aside0.mk (((Below.refl w.heap.size w).alloc (Nat.le_refl _) (.cells (nums .u32 s).toArray 64)).alloc (by simp) (.cells (nums .u8 (List.replicate 32 0)).toArray 5))
  change Code.wp _ _ _ _ ((w.alloc (.cells (nums .u32 s).toArray 64)).alloc (.cells (nums .u8 (List.replicate 32 0)).toArray 5))
  generalize (w.alloc (.cells (nums .u32 s).toArray 64)).alloc (.cells (nums .u8 (List.replicate 32 0)).toArray 5) = W0 at O0 L0 ⊢
  have hv : ∃ v0, v0 = Value.slice (some ⟨(w.alloc (.cells (nums .u32 s).toArray 64)).heap.size, 0, none⟩) 0 32 := ⟨_, rfl⟩
  go_loopw [3, 8] (fun v i wr => ∃ k : Nat, k ≤ 8 ∧ i = .int .i64 k ∧ Aside0 (Own wr w.heap.size 5 .u8 v (bytesN s k)) ∧ Aside0 (Below w.heap.size w wr)) (fun _ i _ => 8 - (intOf i).toNat)
  case atStart => exact ⟨0, by omega, rfl, ⟨by have := O0.out; simp only [World.size_alloc] at this; exact this⟩, L0⟩
  case round =>
    clear O0 L0
    obtain ⟨k, hk, rfl, O1, L1⟩ := hrel
    by_cases hlt : k < 8
    · have q0 : ((k : Int) < 8) = True := eq_true (by omega)
      have hix := index_agg (P := Tryd.prog) (t := 64) (e := 62) (n := 8) (k := .u32) (l := s) (by kernel_rfl) (by kernel_rfl) (by kernel_rfl) HS.out (k : Int) (by omega) (by omega)
      have hlen := bytesN_length s k
      go_wp2_with (at_builtin; refine app_blk (k := .u8) (l := bytesN s k) (base := w.heap.size) (g2 := wr.heap.size) (c := 4) (t2 := 5) rfl _ _ 31 rfl Tryd.underlying31 1 info5 _ (be4 (rd s k)) rfl (O1.out.alloc _) rfl (Blk.at0 _ _ _ _ _ rfl) (by omega) (by rw [hlen]; simp [be4]; omega) (by have := L1.out.size; simp; omega) ?_; intro v' w' h1 h2 h3)
      refine ⟨⟨k + 1, by omega, by go_num, ⟨h1⟩, ⟨(L1.out.alloc L1.out.size _).grown h2 (by have := L1.out.size; simp; omega) (own_base O1.out.out)⟩⟩, by simp [intOf]; omega⟩
    · obtain rfl : k = 8 := by omega
      have q0 : (((8 : Nat) : Int) < 8) = False := eq_false (by omega)
      go_wp2
      go_ret
      exact ⟨_, rfl, O1.out, L1.out⟩
end Go.Proofs.YtgdogjnjbinoiaaDoor.Q
