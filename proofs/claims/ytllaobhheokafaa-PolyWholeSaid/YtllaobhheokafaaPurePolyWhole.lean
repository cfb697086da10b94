/- Whole pieces, with r 1: the pure statement. -/
import Derived.Test.YtllaobhheokafaaDPolyWhole
import Derived.Test.YtllaobhheokafaaFpo4
namespace Go.Proofs.Ytllaobhheokafaa.Pure
open Go.RowKit Go.Proofs.Ytllaobhheokafaa.Q Go.Proofs.Ytllaobhheokafaa.F Go.Proofs.YtllaobhheokafaaW.PrintWords Go.Proofs.YtllaobhheokafaaW.PrintLast Go.Proofs.YtllaobhheokafaaW.PrintMore
set_option linter.unusedVariables false
set_option linter.unusedSimpArgs false
theorem PolyWhole : casketlaw16_PolyWhole.Pure := by
  intro b _ _ hb
  apply Ev.rounds
  unfold casketlaw16_PolyWhole.f
  rw [awake16]
  simp only [Option.bind_some]
  by_cases h1 : (b.length : Int) = 16
  · have hl : b.length = 16 := by omega
    have B := bytes_of hb
    have hz : Bytes (List.replicate 16 0) := fun x hx => by rw [List.eq_of_mem_replicate hx]; decide
    have hn := NK_bd b (rd_byte B) 16
    rw [p16] at hn
    have e1 : macP key1 b = b := by
      rw [mac1 B, hl, show (16 + 15) / 16 = 1 from rfl, Hn_1, piece0 b (by omega), NK_one, hl, p16]
      have : (0 + (NK b 16 + 340282366920938463463374607431768211456)) * 1 % P130 = NK b 16 + 340282366920938463463374607431768211456 * 1 := by unfold P130; omega
      rw [this, dig_mod, dig_self B hl]
    have e2 : macP key1 (b ++ List.replicate 16 0) = b := by
      have hl2 : (b ++ List.replicate 16 (0 : Int)).length = 32 := by rw [List.length_append, hl]; rfl
      rw [mac1 (Bytes.append B hz), hl2, show (32 + 15) / 16 = 2 from rfl, Hn_2]
      have p0 : pieceL (b ++ List.replicate 16 0) 0 = b := by
        rw [pieceL]
        show ((b ++ List.replicate 16 0).take 16).drop 0 = b
        rw [List.take_left' hl, List.drop_zero]
      have p1 : pieceL (b ++ List.replicate 16 0) 1 = List.replicate 16 0 := by
        rw [pieceL]
        show ((b ++ List.replicate 16 0).take 32).drop 16 = _
        rw [List.take_of_length_le (by omega), List.drop_left' hl]
      rw [p0, p1, NK_one, hl, p16, NK_z1]
      have : ((0 + (NK b 16 + 340282366920938463463374607431768211456)) * 1 + 340282366920938463463374607431768211456) * 1 % P130 = NK b 16 + 340282366920938463463374607431768211456 * 2 := by unfold P130; omega
      rw [this, dig_mod, dig_self B hl]
    have f1 := pmac_f key1 b (by decide) key1_bytes B (by omega)
    have f2 := pmac_f key1 (b ++ List.replicate 16 0) (by decide) key1_bytes (Bytes.append B hz) (by rw [List.length_append, List.length_replicate]; omega)
    rw [e1] at f1
    rw [e2] at f2
    have hk : (List.replicate 32 (0 : Int)).set (0 : Int).toNat 1 = key1 := rfl
    refine Ev.congr (f := fun k => (casketlaw16_same.f k b b).bind fun t571 => (if t571 = true then ((casketlaw16_same.f k b b).bind fun t572 => (some t572)) else (some false))) (fun k => ?_) ?_
    · simp only [if_pos h1, hk, f1, Option.bind_some, List.nil_append, List.length_nil]
      rw [if_pos (by decide), if_pos (by decide), if_pos (by omega), if_pos (by omega), f2]
      simp only [Option.bind_some, if_true]
    · have h := same16_ev b b (by omega)
      rw [decide_eq_true rfl] at h
      refine Ev.bind h ?_
      simp only [if_true]
      exact Ev.bind h (Ev.now _)
  · refine Ev.congr (f := fun _ => some true) (fun k => ?_) (Ev.now _)
    rw [if_neg h1]
end Go.Proofs.Ytllaobhheokafaa.Pure
