/- What the rows of the top share: the tables of math/bits where the row lists them. -/
import Derived.Test.YtkennblgbfhjiaaGreatDoorRows
import Derived.Test.YtkennblgbfhjiaaGreatDoorTie
import Derived.Test.YtkennblgbfhjiaaGreatDoorCards
import Derived.Deep.Matrix
import Derived.WalkKit
import Derived.ProofKit
import Derived.OpenShut
import Derived.ShutString
import Derived.ChangeOld
import Derived.Below
import Derived.SizedLaws
import Derived.LaidMore
import Derived.Lay
import Derived.SevenTiedAt
import Derived.Stop.Joined
import Derived.Test.YtkennblgbfhjiaaGreatDoorWAll
namespace Go.Proofs.YtkennblgbfhjiaaGreatDoor.R
open Go.ChangeShapes Go.WideShapes Go.ChangeAt Go.RowKit
open Go.ChangeMaps (open_string shut_string)
open Go.Proofs.YtkennblgbfhjiaaGreatDoorW.PrintWords
set_option linter.unusedVariables false
theorem own : ownKnob Tryz.prog.godebug = none := by kernel_rfl
theorem laidOut : laidOutB Tryz.prog = true := by kernel_rfl
abbrev laidL : List (String × DataW Unit) := [("math/bits.deBruijn32tab", Rows.laid_math_bits_deBruijn32tab), ("math/bits.deBruijn64tab", Rows.laid_math_bits_deBruijn64tab)]
end Go.Proofs.YtkennblgbfhjiaaGreatDoor.R
