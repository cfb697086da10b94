/- Plain facts on the tags of bytes: what the program's functions say of them. No program in sight; each fact under the conditions that it states. -/
import Derived.Test.YtllaobhheokafaaFpoly
import Derived.Test.YtllaobhheokafaaFchacha
import Derived.Test.YtllaobhheokafaaDpoly
namespace Go.Proofs.Ytllaobhheokafaa.F
open Go.RowKit Go.Proofs.Ytllaobhheokafaa.Q Go.Proofs.YtllaobhheokafaaW.PrintWords Go.Proofs.YtllaobhheokafaaW.PrintLast Go.Proofs.YtllaobhheokafaaW.PrintMore
set_option linter.unusedVariables false
theorem Bytes.append {a b : List Int} (ha : Bytes a) (hb : Bytes b) : Bytes (a ++ b) := fun x hx => by
  rw [List.mem_append] at hx
  exact hx.elim (ha x) (hb x)
theorem awake16 : casketlaw16_awake.f = some true := by kernel_rfl
theorem same16_ev (a b : List Int) (ha : a.length ≤ 140737488355328) : Ev (fun k => casketlaw16_same.f k a b) (decide (a = b)) := by
  unfold casketlaw16_same.f
  exact Ev.bind (same_ev a b ha) (Ev.now _)
theorem macP_length (key b : List Int) : (macP key b).length = 16 := bytesW_length _
theorem pmac_f (key b : List Int) (h : key.length = 32) (hk : Bytes key) (hb : Bytes b) (hm : b.length ≤ 274877906944) : poly_MAC.f key b = some (macP key b, 0) := by
  unfold poly_MAC.f
  rw [if_pos h, if_pos ⟨hm, hk, hb⟩]
end Go.Proofs.Ytllaobhheokafaa.F
