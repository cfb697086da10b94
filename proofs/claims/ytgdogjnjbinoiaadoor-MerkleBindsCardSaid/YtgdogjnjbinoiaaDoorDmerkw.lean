/- The pure functions (plain Lean over whole numbers and lists) of: casketlaw20_awake. -/
import Derived.Test.YtgdogjnjbinoiaaDoorWWordsX
import Derived.Test.YtgdogjnjbinoiaaDoorDmerkX
import Derived.Test.YtgdogjnjbinoiaaDoorDmprove
import Derived.Test.YtgdogjnjbinoiaaDoorDmrootX
import Derived.Test.YtgdogjnjbinoiaaDoorDref13
import Derived.Test.YtgdogjnjbinoiaaDoorDshaX
namespace Go.Proofs.YtgdogjnjbinoiaaDoor.Q
open Go.RowKit Go.Proofs.YtgdogjnjbinoiaaDoorW.PrintWords Go.Proofs.YtgdogjnjbinoiaaDoorW.PrintLast Go.Proofs.YtgdogjnjbinoiaaDoorW.PrintMore
attribute [local go_sem] max2_int min2_int max_two min_two max_three min_three max_four min_four   -- for this text's walks alone
set_option linter.unusedVariables false
set_option linter.unusedSimpArgs false

/-! ### casketlaw20_awake: function 10 -/
def casketlaw20_awake.f (k : Nat)  : Option (Bool) := (some (([(([1] : List Int)), (([2] : List Int)), (([3] : List Int))] : List (List Int)) : List (List Int))).bind fun y135 => ((merkle_Root.f y135).bind fun t138 => ((merkle_Prove.f y135 1 1).bind fun bt141 => ((merkle_Prove.f y135 0 2).bind fun bt145 => (if 0 < (y135.length : Int) then (if 1 < (y135.length : Int) then ((merkle_Node.f (rd_L1 y135 0) (rd_L1 y135 1)).bind fun t151 => (if 2 < (y135.length : Int) then ((merkle_Node.f t151 (rd_L1 y135 2)).bind fun t155 => ((casketlaw20_same.f k t138 t155).bind fun t158 => (if t158 = true then (if (t138.length : Int) = 32 then (if bt141.2 = 0 then ((casketref20_Same.f k bt141.1 (([(([1] : List Int)), (([3] : List Int))] : List (List Int)))).bind fun t168 => (if t168 = true then (if bt145.2 = 0 then (some ((bt145.1.length : Int) == 0)) else (some false)) else (some false))) else (some false)) else (some false)) else (some false)))) else (none))) else (none)) else (none)))))

theorem casketlaw20_awake.mono : ∀ k, LeO (casketlaw20_awake.f k ) (casketlaw20_awake.f (k + 1) ) := by
  intro  k
  unfold casketlaw20_awake.f
  repeat' first
      | (with_reducible exact casketlaw20_same.mono _ _ _)
      | (with_reducible exact casketref20_Same.mono _ _ _)
      | (with_reducible exact LeO.refl _)
      | (with_reducible exact LeO.none _)
      | (with_reducible refine LeO.ite ?_ ?_)
      | (with_reducible refine LeO.bind ?_ (fun _ => ?_))
      | exact casketlaw20_same.mono _ _ _
      | exact casketref20_Same.mono _ _ _
      | exact LeO.none _
      | refine LeO.ite ?_ ?_
      | refine LeO.bind ?_ (fun _ => ?_)

end Go.Proofs.YtgdogjnjbinoiaaDoor.Q
