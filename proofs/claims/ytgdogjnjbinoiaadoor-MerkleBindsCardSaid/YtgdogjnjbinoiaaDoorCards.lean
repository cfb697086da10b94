/-
  DERIVED. GIVEN WITH THE SEED: THE CARDS: each row of YtgdogjnjbinoiaaDoorRows.lean that lists a variable, with what it lists TIED to the program's text (the seventh form; the later family's looks); each row that meets fmt, with fmt's text TOLD by the authors' own Lean function (tested against real Go, not proved from fmt's source: count such statements apart). THE CARD IS WHAT COUNTS. Prove the row's statement (the work); the ties are given (YtgdogjnjbinoiaaDoorTie.lean); close each card by the builder's one call (the guide's Derived/Test/ToyasCard.lean, 'card_holds'). Laid BY PROGRAM, IN A SANDBOX (cutbox-door.mjs). By AI agents, Wed Nov 11 2026. No macro, syntax, notation, axiom, sorry.
-/
import Derived.Test.YtgdogjnjbinoiaaDoorRows
import GoSem.ClaimSeven
namespace Go.Proofs.YtgdogjnjbinoiaaDoor
namespace Rows

/-- THE TIED CARD OF 'casketlaw20.MerkleProves'. -/
def merkleProvesCard : Claim7 := { stood := { row := merkleProvesRow, standIns := [], harness := (true, "55c777401da8e1d81558061b4e452da0685271658019ba9d1926c348f9500865"), looks := false }, kinds := [], alts := [], laidByText := true, laidKinds := [.data, .data], laidTests := true, laidLooks := .later }
def MerkleProvesCardSaid : Prop := Claim7.holds Tryd.pinned (.plain (OpenSpec.ofChange merkleProvesSpec)) merkleProvesCard

/-- THE TIED CARD OF 'casketlaw20.MerkleHalves'. -/
def merkleHalvesCard : Claim7 := { stood := { row := merkleHalvesRow, standIns := [], harness := (true, "55c777401da8e1d81558061b4e452da0685271658019ba9d1926c348f9500865"), looks := false }, kinds := [], alts := [], laidByText := true, laidKinds := [.data, .data], laidTests := true, laidLooks := .later }
def MerkleHalvesCardSaid : Prop := Claim7.holds Tryd.pinned (.plain (OpenSpec.ofChange merkleHalvesSpec)) merkleHalvesCard

/-- THE TIED CARD OF 'casketlaw20.MerkleRoots'. -/
def merkleRootsCard : Claim7 := { stood := { row := merkleRootsRow, standIns := [], harness := (true, "55c777401da8e1d81558061b4e452da0685271658019ba9d1926c348f9500865"), looks := false }, kinds := [], alts := [], laidByText := true, laidKinds := [.data, .data], laidTests := true, laidLooks := .later }
def MerkleRootsCardSaid : Prop := Claim7.holds Tryd.pinned (.plain (OpenSpec.ofChange merkleRootsSpec)) merkleRootsCard

/-- THE TIED CARD OF 'casketlaw20.MerkleBinds'. -/
def merkleBindsCard : Claim7 := { stood := { row := merkleBindsRow, standIns := [], harness := (true, "55c777401da8e1d81558061b4e452da0685271658019ba9d1926c348f9500865"), looks := false }, kinds := [], alts := [], laidByText := true, laidKinds := [.data, .data], laidTests := true, laidLooks := .later }
def MerkleBindsCardSaid : Prop := Claim7.holds Tryd.pinned (.plain (OpenSpec.ofChange merkleBindsSpec)) merkleBindsCard

/-- THE TIED CARD OF 'casketlaw20.MerkleWhole'. -/
def merkleWholeCard : Claim7 := { stood := { row := merkleWholeRow, standIns := [], harness := (true, "55c777401da8e1d81558061b4e452da0685271658019ba9d1926c348f9500865"), looks := false }, kinds := [], alts := [], laidByText := true, laidKinds := [.data, .data], laidTests := true, laidLooks := .later }
def MerkleWholeCardSaid : Prop := Claim7.holds Tryd.pinned (.plain (OpenSpec.ofChange merkleWholeSpec)) merkleWholeCard

/-- THE TIED CARD OF 'casketlaw20.MerkleRebuilds'. -/
def merkleRebuildsCard : Claim7 := { stood := { row := merkleRebuildsRow, standIns := [], harness := (true, "55c777401da8e1d81558061b4e452da0685271658019ba9d1926c348f9500865"), looks := false }, kinds := [], alts := [], laidByText := true, laidKinds := [.data, .data], laidTests := true, laidLooks := .later }
def MerkleRebuildsCardSaid : Prop := Claim7.holds Tryd.pinned (.plain (OpenSpec.ofChange merkleRebuildsSpec)) merkleRebuildsCard

/-- THE TIED CARD OF 'casketlaw20.MerkleHolds'. -/
def merkleHoldsCard : Claim7 := { stood := { row := merkleHoldsRow, standIns := [], harness := (true, "55c777401da8e1d81558061b4e452da0685271658019ba9d1926c348f9500865"), looks := false }, kinds := [], alts := [], laidByText := true, laidKinds := [.data, .data], laidTests := true, laidLooks := .later }
def MerkleHoldsCardSaid : Prop := Claim7.holds Tryd.pinned (.plain (OpenSpec.ofChange merkleHoldsSpec)) merkleHoldsCard

/-- THE SECOND FORM's CARD OF 'casketlaw20.MerkleProves'. -/
def merkleProvesUptoCard : Claim7 := { stood := { row := merkleProvesUptoRow, standIns := [], harness := (true, "55c777401da8e1d81558061b4e452da0685271658019ba9d1926c348f9500865"), looks := false }, kinds := [], alts := [], laidByText := true, laidKinds := [.data, .data], laidTests := true, laidLooks := .later }
def MerkleProvesUptoCardSaid : Prop := Claim7.holds Tryd.pinned (.plain (OpenSpec.upto merkleProvesSpec)) merkleProvesUptoCard

/-- THE SECOND FORM's CARD OF 'casketlaw20.MerkleHalves'. -/
def merkleHalvesUptoCard : Claim7 := { stood := { row := merkleHalvesUptoRow, standIns := [], harness := (true, "55c777401da8e1d81558061b4e452da0685271658019ba9d1926c348f9500865"), looks := false }, kinds := [], alts := [], laidByText := true, laidKinds := [.data, .data], laidTests := true, laidLooks := .later }
def MerkleHalvesUptoCardSaid : Prop := Claim7.holds Tryd.pinned (.plain (OpenSpec.upto merkleHalvesSpec)) merkleHalvesUptoCard

/-- THE SECOND FORM's CARD OF 'casketlaw20.MerkleRoots'. -/
def merkleRootsUptoCard : Claim7 := { stood := { row := merkleRootsUptoRow, standIns := [], harness := (true, "55c777401da8e1d81558061b4e452da0685271658019ba9d1926c348f9500865"), looks := false }, kinds := [], alts := [], laidByText := true, laidKinds := [.data, .data], laidTests := true, laidLooks := .later }
def MerkleRootsUptoCardSaid : Prop := Claim7.holds Tryd.pinned (.plain (OpenSpec.upto merkleRootsSpec)) merkleRootsUptoCard

/-- THE SECOND FORM's CARD OF 'casketlaw20.MerkleBinds'. -/
def merkleBindsUptoCard : Claim7 := { stood := { row := merkleBindsUptoRow, standIns := [], harness := (true, "55c777401da8e1d81558061b4e452da0685271658019ba9d1926c348f9500865"), looks := false }, kinds := [], alts := [], laidByText := true, laidKinds := [.data, .data], laidTests := true, laidLooks := .later }
def MerkleBindsUptoCardSaid : Prop := Claim7.holds Tryd.pinned (.plain (OpenSpec.upto merkleBindsSpec)) merkleBindsUptoCard

/-- THE SECOND FORM's CARD OF 'casketlaw20.MerkleWhole'. -/
def merkleWholeUptoCard : Claim7 := { stood := { row := merkleWholeUptoRow, standIns := [], harness := (true, "55c777401da8e1d81558061b4e452da0685271658019ba9d1926c348f9500865"), looks := false }, kinds := [], alts := [], laidByText := true, laidKinds := [.data, .data], laidTests := true, laidLooks := .later }
def MerkleWholeUptoCardSaid : Prop := Claim7.holds Tryd.pinned (.plain (OpenSpec.upto merkleWholeSpec)) merkleWholeUptoCard

/-- THE SECOND FORM's CARD OF 'casketlaw20.MerkleRebuilds'. -/
def merkleRebuildsUptoCard : Claim7 := { stood := { row := merkleRebuildsUptoRow, standIns := [], harness := (true, "55c777401da8e1d81558061b4e452da0685271658019ba9d1926c348f9500865"), looks := false }, kinds := [], alts := [], laidByText := true, laidKinds := [.data, .data], laidTests := true, laidLooks := .later }
def MerkleRebuildsUptoCardSaid : Prop := Claim7.holds Tryd.pinned (.plain (OpenSpec.upto merkleRebuildsSpec)) merkleRebuildsUptoCard

/-- THE SECOND FORM's CARD OF 'casketlaw20.MerkleHolds'. -/
def merkleHoldsUptoCard : Claim7 := { stood := { row := merkleHoldsUptoRow, standIns := [], harness := (true, "55c777401da8e1d81558061b4e452da0685271658019ba9d1926c348f9500865"), looks := false }, kinds := [], alts := [], laidByText := true, laidKinds := [.data, .data], laidTests := true, laidLooks := .later }
def MerkleHoldsUptoCardSaid : Prop := Claim7.holds Tryd.pinned (.plain (OpenSpec.upto merkleHoldsSpec)) merkleHoldsUptoCard
end Rows
end Go.Proofs.YtgdogjnjbinoiaaDoor
