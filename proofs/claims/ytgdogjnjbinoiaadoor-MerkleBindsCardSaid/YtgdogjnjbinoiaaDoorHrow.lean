/- What the rows on the tree of sums share: a list of lists of bytes opened; the table of math/bits where the row lists it. -/
import Derived.Test.YtgdogjnjbinoiaaDoorRows
import Derived.Test.YtgdogjnjbinoiaaDoorTie
import Derived.Test.YtgdogjnjbinoiaaDoorCards
import Derived.Test.YtgdogjnjbinoiaaDoorHmr
import Derived.Deep.Matrix
import Derived.WalkKit
import Derived.ProofKit
import Derived.OpenShut
import Derived.ShutString
import Derived.ChangeOld
import Derived.Below
import Derived.SizedLaws
import Derived.LaidMore
import Derived.Lay
import Derived.SevenTiedAt
import Derived.Stop.Joined
import Derived.Test.YtgdogjnjbinoiaaDoorWWordsX
namespace Go.Proofs.YtgdogjnjbinoiaaDoor.R
open Go.ChangeShapes Go.WideShapes Go.ChangeAt Go.RowKit
open Go.ChangeMaps (open_string shut_string)
open Go.Proofs.YtgdogjnjbinoiaaDoorW.PrintWords
set_option linter.unusedVariables false
theorem own : ownKnob Tryd.prog.godebug = none := by kernel_rfl
theorem laidOut : laidOutB Tryd.prog = true := by kernel_rfl
/-- A slice of slices of bytes, opened. -/
theorem rows_of {H : Type} {enc : TypeId × Value → H} {P : Program} {w : World} {base : Nat} {held : Bool} {t e q : TypeId} {fuel : Nat} {a0 : Option Addr} {len0 cap0 : Nat} {x : DataW H × List MemPlace} (ht : P.underlying t = some (.slice e)) (he : P.underlying e = some (.slice q)) (hq : P.underlying q = some (.int .u8))
    (ce : P.cellsOf e = 1) (cq : P.cellsOf q = 1) (h : DataW.trod enc P w base (fun _ => true) held fuel t (Value.cells (.slice a0 len0 cap0)).toList = some x) :
    ∃ l : List (List Int), l.length = len0 ∧ len0 ≤ cap0 ∧ Kd.C (Kd.slice 5 (Kd.int .u8)) w a0 l.length l ∧ Q.AllBytes l := by
  rcases Go.Deep.open_int_rows ht he hq ce cq h with ⟨hcs, _⟩ | ⟨a, len, cap, A, L, C, Zf, hcs, _, hl, hm, _, hrow⟩
  · simp [Value.cells] at hcs
    obtain ⟨rfl, rfl, rfl⟩ := hcs
    exact ⟨[], rfl, Nat.le_refl _, ⟨rfl, by decide, fun h => absurd h (by decide)⟩, fun y hy => by cases hy⟩
  · simp [Value.cells] at hcs
    obtain ⟨rfl, rfl, rfl⟩ := hcs
    have hlen : ∀ r, r < len0 → ((Zf r).take (L r)).length = L r := fun r hr => by
      obtain ⟨_, h1, _, h2, _⟩ := hrow r (by omega)
      rw [List.length_take]
      omega
    have hll : ((List.range len0).map fun r => (Zf r).take (L r)).length = len0 := by rw [List.length_map, List.length_range]
    refine ⟨(List.range len0).map fun r => (Zf r).take (L r), hll, hl, ?_, fun y hy => ?_⟩
    · rw [hll]
      refine ⟨hll, by simp only [maxLen] at hm; omega, fun _ => ⟨a, rfl, fun j p hj => ?_⟩⟩
      rw [List.getElem?_map] at hj
      have hjl : j < len0 := by
        rcases Nat.lt_or_ge j len0 with h1 | h1
        · exact h1
        · rw [List.getElem?_eq_none (by rw [List.length_range]; exact h1)] at hj
          cases hj
      rw [List.getElem?_range hjl] at hj
      obtain rfl := Option.some.inj hj
      obtain ⟨hc, h1, h3, h2, _, h4, h5⟩ := hrow j (by omega)
      refine ⟨[.slice (A j) ((Zf j).take (L j)).length (C j)], rfl, ⟨A j, C j, rfl, by rw [hlen j hjl]; exact h1, ?_⟩, fun i u hu => ?_⟩
      · rw [hlen j hjl]
        refine Kd.C_of_reads (enc := Value.int .u8) (d := (0 : Int)) (h1 := fun _ => rfl) ⟨hlen j hjl, by simp only [maxLen] at h3; omega, fun hp => ?_⟩
        cases hA : A j with
        | none =>
          have := h4 hA
          omega
        | some ad =>
          refine ⟨ad, rfl, fun i hi => ?_⟩
          rw [(h5 ad hA).2 i (by omega)]
          simp [List.getD_eq_getElem?_getD, List.getElem?_take_of_lt hi]
      · match i, hu with
        | 0, hu =>
          obtain rfl := Option.some.inj hu
          rw [hlen j hjl]
          have : j * (Kd.slice 5 (Kd.int .u8)).sz + 0 = j := by show j * 1 + 0 = j; omega
          rw [this]
          exact hc
    · obtain ⟨r, hr, rfl⟩ := List.mem_map.mp hy
      rw [List.mem_range] at hr
      obtain ⟨_, h1, h3, h2, h6, _⟩ := hrow r (by omega)
      exact F.bytes_of (fun n hn => h6 n (List.mem_of_mem_take hn))
/-- A slice of bytes, opened. -/
theorem bytes_in {H : Type} {enc : TypeId × Value → H} {P : Program} {w : World} {base : Nat} {held : Bool} {t e : TypeId} {fuel : Nat} {a0 : Option Addr} {len0 cap0 : Nat} {x : DataW H × List MemPlace} (ht : P.underlying t = some (.slice e)) (he : P.underlying e = some (.int .u8))
    (ce : P.cellsOf e = 1) (h : DataW.trod enc P w base (fun _ => true) held fuel t (Value.cells (.slice a0 len0 cap0)).toList = some x) :
    ∃ l : List Int, l.length = len0 ∧ len0 ≤ cap0 ∧ Kd.C (Kd.int .u8) w a0 l.length l ∧ F.Bytes l := by
  rcases open_ints ht he ce h with ⟨hcs, _⟩ | ⟨ad, len, cap, zs, hcs, _, hl, hm, hz, _, hcell, hwz⟩
  · simp [Value.cells] at hcs
    obtain ⟨rfl, rfl, rfl⟩ := hcs
    exact ⟨[], rfl, Nat.le_refl _, ⟨rfl, by decide, fun h => absurd h (by decide)⟩, fun y hy => by cases hy⟩
  · simp [Value.cells] at hcs
    obtain ⟨rfl, rfl, rfl⟩ := hcs
    have hz' : zs.length = cap0 := by simpa using hz
    have hlen : (zs.take len0).length = len0 := by rw [List.length_take]; omega
    refine ⟨zs.take len0, hlen, hl, ?_, F.bytes_of (fun n hn => hwz n (List.mem_of_mem_take hn))⟩
    rw [hlen]
    refine Kd.C_of_reads (enc := Value.int .u8) (d := (0 : Int)) (h1 := fun _ => rfl) ⟨hlen, by simp only [maxLen] at hm; omega, fun hp => ⟨ad, rfl, fun i hi => ?_⟩⟩
    rw [hcell i (by omega)]
    simp [List.getD_eq_getElem?_getD, List.getElem?_take_of_lt hi]
abbrev laidL : List (String × DataW Unit) := [("math/bits.deBruijn32tab", Rows.laid_math_bits_deBruijn32tab), ("math/bits.deBruijn64tab", Rows.laid_math_bits_deBruijn64tab)]
theorem laid_list : (Rows.laid_math_bits_deBruijn64tab : DataW Unit) = .agg (Q.tabL.map fun n => .lit (.int .u8 n)) := rfl
/-- WHAT THE CONDITION GIVES A WALK: the table's cells. -/
theorem tab_of_laid {W : World} (h : laidMetH Tryd.prog laidL W) : Q.TabAt W := ⟨fun r hr => by
  rw [MakeChecks.laidMetH_plain _ _ _ (by kernel_rfl)] at h
  obtain ⟨ps, ⟨g0, t0, cs0, fuel0, p0, q0, hg0, ht0, hv0, hd0, ⟨g, t, cs, fuel, p, q, hg, ht, hv, hd, _, _⟩, _⟩, _, _⟩ := h
  obtain rfl := Option.some.inj ((show Tryd.prog.globalNamed "math/bits.deBruijn64tab" = some 1 by kernel_rfl).symm.trans hg)
  obtain rfl := Option.some.inj ((show (Tryd.prog.globals[1]?).map (·.type) = some 65 by kernel_rfl).symm.trans ht)
  rw [laid_list] at hd
  obtain ⟨xs, m, _, ex, _, hl, hel⟩ := DataW.trod_array Tryd.underlying65 hd
  have c5 : Tryd.prog.cellsOf 5 = 1 := by kernel_rfl
  have hE := hel r hr
  rw [c5, Nat.mul_one, List.getElem?_eq_getElem (by omega)] at hE
  obtain ⟨z, e1, e2, _⟩ := DataW.trod_int Tryd.underlying5 hE
  have hlen : Q.tabL.length = 64 := by kernel_rfl
  have e3 : (xs.map (·.1)) = Q.tabL.map fun n => .lit (.int .u8 n) := (DataW.agg.inj (Prod.mk.inj ex).1).symm
  have e4 : (xs.map (·.1))[r]? = (Q.tabL.map fun n => (DataW.lit (.int .u8 n) : DataW Unit))[r]? := by rw [e3]
  rw [List.getElem?_map, List.getElem?_map, List.getElem?_eq_getElem (by omega : r < xs.length), List.getElem?_eq_getElem (by omega : r < Q.tabL.length), e2] at e4
  have hz : z = rd Q.tabL (r : Nat) := by
    simp only [Option.map_some, Option.some.injEq, DataW.lit.injEq, Lit.int.injEq, true_and] at e4
    rw [e4, rd, List.getD, Int.toNat_natCast, List.getElem?_eq_getElem (by omega : r < Q.tabL.length)]; rfl
  rw [World.var?_cell hg hv r, ← hz]
  have : cs.toList[r]? = some (.int .u8 z) := by
    have h0 : ((cs.toList.drop r).take 1)[0]? = some (.int .u8 z) := by rw [e1]; rfl
    simpa using h0
  simpa using this⟩
end Go.Proofs.YtgdogjnjbinoiaaDoor.R
