/- The pure functions (plain Lean over whole numbers and lists) of: poly_MAC, casketlaw16_awake. -/
import Derived.Test.YtllaobhheokafaaWWords
import Derived.Test.YtllaobhheokafaaWAll
import Derived.Test.YtllaobhheokafaaPpoly
namespace Go.Proofs.Ytllaobhheokafaa.Q
open Go.RowKit Go.Proofs.YtllaobhheokafaaW.PrintWords Go.Proofs.YtllaobhheokafaaW.PrintLast Go.Proofs.YtllaobhheokafaaW.PrintMore
attribute [local go_sem] max2_int min2_int max_two min_two max_three min_three max_four min_four   -- for this text's walks alone
set_option linter.unusedVariables false
set_option linter.unusedSimpArgs false

/-! ### poly_MAC: function 29 -/
/-- The tag of bytes by a key of 32 bytes. -/
def poly_MAC.f (l0 : List Int) (l1 : List Int) : Option (List Int × Int) := if l0.length = 32 then (if l1.length ≤ 274877906944 ∧ (∀ x ∈ l0, 0 ≤ x ∧ x < 256) ∧ (∀ x ∈ l1, 0 ≤ x ∧ x < 256) then some (macP l0 l1, 0) else none) else some ([], 1)

/-! ### casketlaw16_awake: function 28 -/
def casketlaw16_awake.f  : Option (Bool) := if 32 ≤ 281474976710656 then ((some (List.replicate 32 0 : List Int)).bind fun y288 => (if 0 < (y288.length : Int) then ((some (y288.set (0 : Int).toNat 1 : List Int)).bind fun y291 => ((poly_MAC.f y291 (([0] : List Int))).bind fun bt295 => (if 31 ≤ (y288.length : Int) then ((poly_MAC.f (y291.take 31) ([] : List Int)).bind fun bt303 => (if bt295.2 = 0 then (if (bt295.1.length : Int) = 16 then (if 0 < (bt295.1.length : Int) then (if (rd bt295.1 0) = 0 then (if 1 < (bt295.1.length : Int) then (if (rd bt295.1 1) = 1 then (if 2 < (bt295.1.length : Int) then (if (rd bt295.1 2) = 0 then (some (bt303.2 == 1)) else (some false)) else (none)) else (some false)) else (none)) else (some false)) else (none)) else (some false)) else (some false))) else (none)))) else (none))) else (none)

end Go.Proofs.Ytllaobhheokafaa.Q
