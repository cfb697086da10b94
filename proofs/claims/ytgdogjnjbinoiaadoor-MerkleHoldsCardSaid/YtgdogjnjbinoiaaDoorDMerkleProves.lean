/- The pure functions (plain Lean over whole numbers and lists) of: casketlaw20_MerkleProves. -/
import Derived.Test.YtgdogjnjbinoiaaDoorWWordsX
import Derived.Test.YtgdogjnjbinoiaaDoorDmerkw
import Derived.Test.YtgdogjnjbinoiaaDoorDmprove
import Derived.Test.YtgdogjnjbinoiaaDoorDref13
import Derived.Test.YtgdogjnjbinoiaaDoorDref20
namespace Go.Proofs.YtgdogjnjbinoiaaDoor.Q
open Go.RowKit Go.Proofs.YtgdogjnjbinoiaaDoorW.PrintWords Go.Proofs.YtgdogjnjbinoiaaDoorW.PrintLast Go.Proofs.YtgdogjnjbinoiaaDoorW.PrintMore
attribute [local go_sem] max2_int min2_int max_two min_two max_three min_three max_four min_four   -- for this text's walks alone
set_option linter.unusedVariables false
set_option linter.unusedSimpArgs false

/-! ### casketlaw20_MerkleProves: function 3 -/
def casketlaw20_MerkleProves.f (k : Nat) (l0 : List (List Int)) (a1 : Int) (a2 : Int) : Option (Bool) := (casketlaw20_awake.f k).bind fun t339 => ((casketlaw20_few.f k l0 70).bind fun t340 => (if t340 = true then ((merkle_Prove.f l0 a1 a2).bind fun bt341 => ((casketref20_Prove.f k l0 a1 a2).bind fun bt345 => (if t339 = true then (if bt341.2 = bt345.2 then ((casketref20_Same.f k bt341.1 bt345.1).bind fun t349 => (some t349)) else (some false)) else (some false)))) else (some t339)))

theorem casketlaw20_MerkleProves.mono : ∀ a0 a1 a2 k, LeO (casketlaw20_MerkleProves.f k a0 a1 a2) (casketlaw20_MerkleProves.f (k + 1) a0 a1 a2) := by
  intro a0 a1 a2 k
  unfold casketlaw20_MerkleProves.f
  repeat' first
      | (with_reducible exact casketlaw20_awake.mono _)
      | (with_reducible exact casketlaw20_few.mono _ _ _)
      | (with_reducible exact casketref20_Prove.mono _ _ _ _)
      | (with_reducible exact casketref20_Same.mono _ _ _)
      | (with_reducible exact LeO.refl _)
      | (with_reducible exact LeO.none _)
      | (with_reducible refine LeO.ite ?_ ?_)
      | (with_reducible refine LeO.bind ?_ (fun _ => ?_))
      | exact casketlaw20_awake.mono _
      | exact casketlaw20_few.mono _ _ _
      | exact casketref20_Prove.mono _ _ _ _
      | exact casketref20_Same.mono _ _ _
      | exact LeO.none _
      | refine LeO.ite ?_ ?_
      | refine LeO.bind ?_ (fun _ => ?_)

end Go.Proofs.YtgdogjnjbinoiaaDoor.Q
