/- The pure functions (plain Lean over whole numbers and lists) of: casketlaw20_MerkleBinds. -/
import Derived.Test.YtgdogjnjbinoiaaDoorWWordsX
import Derived.Test.YtgdogjnjbinoiaaDoorDclashX
import Derived.Test.YtgdogjnjbinoiaaDoorDmerkw
import Derived.Test.YtgdogjnjbinoiaaDoorDmrebX
import Derived.Test.YtgdogjnjbinoiaaDoorDref13
import Derived.Test.YtgdogjnjbinoiaaDoorDref20
import Derived.Test.YtgdogjnjbinoiaaDoorDshaX
namespace Go.Proofs.YtgdogjnjbinoiaaDoor.Q
open Go.RowKit Go.Proofs.YtgdogjnjbinoiaaDoorW.PrintWords Go.Proofs.YtgdogjnjbinoiaaDoorW.PrintLast Go.Proofs.YtgdogjnjbinoiaaDoorW.PrintMore
attribute [local go_sem] max2_int min2_int max_two min_two max_three min_three max_four min_four   -- for this text's walks alone
set_option linter.unusedVariables false
set_option linter.unusedSimpArgs false

/-! ### casketlaw20_MerkleBinds: function 6 -/
mutual

noncomputable def casketlaw20_MerkleBinds.j0 : Nat → Int → Int → List (List Int) → List (List Int) → List (List Int) → List (List Int) → Bool → Bool → Option (Bool)
  | 0, _, _, _, _, _, _, _, _ => none
  | k + 1, x0, x1, x2, x3, x4, x5, x13, x50 => if x50 = true then (some x13) else (if x2.length + x3.length + x4.length + x5.length < 1000000 then casketlaw20_MerkleBinds.l0 k x0 x1 x2 x3 x4 x5 x13 ((((([] : List (List Int)) ++ x2) ++ x3) ++ x4) ++ x5) 0 else none)

noncomputable def casketlaw20_MerkleBinds.l0 : Nat → Int → Int → List (List Int) → List (List Int) → List (List Int) → List (List Int) → Bool → List (List Int) → Int → Option (Bool)
  | 0, _, _, _, _, _, _, _, _, _ => none
  | k + 1, x0, x1, x2, x3, x4, x5, x13, x14, x15 => if x15 < (x14.length : Int) then (if 0 ≤ x15 then (if ((rd_L1 x14 x15).length : Int) = 32 then (casketlaw20_MerkleBinds.l0 k x0 x1 x2 x3 x4 x5 x13 x14 (wrap64 (x15 + 1))) else (some x13)) else (none)) else ((merkle_Rebuild.f x0 x1 x2 x4).bind fun bt377 => ((merkle_Rebuild.f x0 x1 x3 x5).bind fun bt381 => (if bt377.2 = 0 then (if bt381.2 = 0 then ((casketlaw20_same.f k bt377.1 bt381.1).bind fun t385 => (if t385 = true then ((casketref20_Same.f k x2 x3).bind fun t386 => (if t386 = true then ((casketref20_Same.f k x4 x5).bind fun t387 => (casketlaw20_MerkleBinds.j2 k x0 x1 x2 x3 x4 x5 x13 t387)) else (casketlaw20_MerkleBinds.j2 k x0 x1 x2 x3 x4 x5 x13 false))) else (casketlaw20_MerkleBinds.j2 k x0 x1 x2 x3 x4 x5 x13 true))) else (casketlaw20_MerkleBinds.j2 k x0 x1 x2 x3 x4 x5 x13 true)) else (casketlaw20_MerkleBinds.j2 k x0 x1 x2 x3 x4 x5 x13 true))))

noncomputable def casketlaw20_MerkleBinds.j2 : Nat → Int → Int → List (List Int) → List (List Int) → List (List Int) → List (List Int) → Bool → Bool → Option (Bool)
  | 0, _, _, _, _, _, _, _, _ => none
  | k + 1, x0, x1, x2, x3, x4, x5, x13, x111 => if x111 = true then (some x13) else (if x0 < 1 then (casketlaw20_MerkleBinds.j3 k x0 x1 x2 x3 x4 x5 x13 true) else (if x0 > 1048576 then (casketlaw20_MerkleBinds.j3 k x0 x1 x2 x3 x4 x5 x13 true) else (if x1 < 0 then (casketlaw20_MerkleBinds.j3 k x0 x1 x2 x3 x4 x5 x13 true) else (if x1 ≥ x0 then (casketlaw20_MerkleBinds.j3 k x0 x1 x2 x3 x4 x5 x13 true) else (if (x2.length : Int) = 0 then (casketlaw20_MerkleBinds.j3 k x0 x1 x2 x3 x4 x5 x13 true) else (if (x2.length : Int) > (wrap64 (x0 - x1)) then (casketlaw20_MerkleBinds.j3 k x0 x1 x2 x3 x4 x5 x13 true) else ((casketref20_Many.f k 0 x0 x1 (wrap64 ((wrap64 (x1 + (x2.length : Int))) - 1))).bind fun t388 => (if (x4.length : Int) = t388 then (casketlaw20_MerkleBinds.j3 k x0 x1 x2 x3 x4 x5 x13 ((x5.length : Int) != (x4.length : Int))) else (casketlaw20_MerkleBinds.j3 k x0 x1 x2 x3 x4 x5 x13 true)))))))))

noncomputable def casketlaw20_MerkleBinds.j3 : Nat → Int → Int → List (List Int) → List (List Int) → List (List Int) → List (List Int) → Bool → Bool → Option (Bool)
  | 0, _, _, _, _, _, _, _, _ => none
  | k + 1, x0, x1, x2, x3, x4, x5, x13, x160 => if x160 = true then (some false) else ((casketlaw20_clash.f k 0 x0 x1 x2 x3 x4 x5 0).bind fun bt389 => (if x13 = true then (if bt389.2.2.1 = true then ((casketlaw20_same.f k bt389.1 bt389.2.1).bind fun t404 => (if t404 = true then (some false) else ((casketref20_Sum.f k bt389.1).bind fun t405 => ((casketref20_Sum.f k bt389.2.1).bind fun t408 => ((casketlaw20_same.f k t405 t408).bind fun t411 => (some t411)))))) else (some false)) else (some false)))
end

noncomputable def casketlaw20_MerkleBinds.f (k : Nat) (a0 : Int) (a1 : Int) (l2 : List (List Int)) (l3 : List (List Int)) (l4 : List (List Int)) (l5 : List (List Int)) : Option (Bool) := (casketlaw20_awake.f k).bind fun t371 => ((casketlaw20_few.f k l2 40).bind fun t372 => (if t372 = true then ((casketlaw20_few.f k l3 40).bind fun t373 => (if t373 = true then ((casketlaw20_few.f k l4 60).bind fun t374 => (if t374 = true then ((casketlaw20_few.f k l5 60).bind fun t375 => (if t375 = true then (casketlaw20_MerkleBinds.j0 k a0 a1 l2 l3 l4 l5 t371 ((l2.length : Int) != (l3.length : Int))) else (casketlaw20_MerkleBinds.j0 k a0 a1 l2 l3 l4 l5 t371 true))) else (casketlaw20_MerkleBinds.j0 k a0 a1 l2 l3 l4 l5 t371 true))) else (casketlaw20_MerkleBinds.j0 k a0 a1 l2 l3 l4 l5 t371 true))) else (casketlaw20_MerkleBinds.j0 k a0 a1 l2 l3 l4 l5 t371 true)))

end Go.Proofs.YtgdogjnjbinoiaaDoor.Q
