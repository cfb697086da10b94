/-
  No cell of these rows narrows 'for every input' (looked for: loops, veiled, ifaces, maps, wideKeys, modest, calm, conditions, laid).
  DERIVED. THE GIVEN ROWS OF THIS SEAT. 17 by the template 'for every input the law returns true; each argument reads behind the call as it read before'; 0 by the template 'total and deterministic' (their statements: YtllaobhheokafaaTotals.lean).
  GIVEN WITH THE SEED: the statements are not yours to turn. If you find one false, say at which input.
  Laid BY PROGRAM, IN A SANDBOX (cutbox-rows.mjs): the forced cells as the released guide's own fill.sh prints them over the translation c8b311ce3bad420b… (all of the seat's roots in one cut). By AI agents, Wed Nov 11 2026. No macro, syntax, notation, axiom, sorry.
-/
import Derived.Test.YtllaobhheokafaaChecked
import GoSem.Claim
import GoSem.ClaimJoined
import GoSem.ClaimMapViews
import Derived.JoinedTies
import Derived.KernelRfl
namespace Go.Proofs.Ytllaobhheokafaa
/- THE CELL 'sum', in the pinned program and in every row, IS THE sha256 OF THE DUMP (.gsa) THAT YtllaobhheokafaaProg.lean LOADS. Nothing in Lean hashes anything: it is a label: what it is worth is what the hold of that sum in a sandbox is worth. -/
noncomputable def Try.pinned : Pinned := { name := "ytllaobhheokafaa", sum := "c8b311ce3bad420b1af3e6c18cc59b9f80c01b3d6da8652736236483f4bdd6ec", checked := Try.checked }
namespace Rows
def none {H : Type} : Left H := { results := [], args := [] }

/-- 'casketlaw15.ChachaQuarters': WHATEVER THE INPUT: true; the input reads as it did. -/
def chachaQuartersSpec : ChangeSpec := { name := "chachaQuarters", fn := fun _ => fun
  | [d] => { results := [.lit (.bool true)], args := [d] }
  | _ => none }
def chachaQuartersRow : OpenClaim := { program := "ytllaobhheokafaa", sum := "c8b311ce3bad420b1af3e6c18cc59b9f80c01b3d6da8652736236483f4bdd6ec", func := "casket/casketlaw15.ChachaQuarters", spec := "chachaQuarters", apart := false }
def ChachaQuartersSaid : Prop := chachaQuartersRow.holds Try.pinned (OpenSpec.ofChange chachaQuartersSpec)

/-- ITS FALSE NEIGHBOUR: 'it returns false'. Refute it at one input. -/
def chachaQuartersWrong : ChangeSpec := { name := "chachaQuarters", fn := fun _ => fun
  | [d] => { results := [.lit (.bool false)], args := [d] }
  | _ => none }
def ChachaQuartersWrongFalsely : Prop := chachaQuartersRow.holds Try.pinned (OpenSpec.ofChange chachaQuartersWrong)

/-- 'casketlaw15.ChachaBlocks': WHATEVER THE INPUT: true; the input reads as it did. -/
def chachaBlocksSpec : ChangeSpec := { name := "chachaBlocks", fn := fun _ => fun
  | [d1, d2, d3] => { results := [.lit (.bool true)], args := [d1, d2, d3] }
  | _ => none }
def chachaBlocksRow : OpenClaim := { program := "ytllaobhheokafaa", sum := "c8b311ce3bad420b1af3e6c18cc59b9f80c01b3d6da8652736236483f4bdd6ec", func := "casket/casketlaw15.ChachaBlocks", spec := "chachaBlocks", unfollowed := true, recurses := true, apart := false }
def ChachaBlocksSaid : Prop := chachaBlocksRow.holds Try.pinned (OpenSpec.ofChange chachaBlocksSpec)

/-- ITS FALSE NEIGHBOUR: 'it returns false'. Refute it at one input. -/
def chachaBlocksWrong : ChangeSpec := { name := "chachaBlocks", fn := fun _ => fun
  | [d1, d2, d3] => { results := [.lit (.bool false)], args := [d1, d2, d3] }
  | _ => none }
def ChachaBlocksWrongFalsely : Prop := chachaBlocksRow.holds Try.pinned (OpenSpec.ofChange chachaBlocksWrong)

/-- 'casketlaw15.ChachaStreams': WHATEVER THE INPUT: true; the input reads as it did. -/
def chachaStreamsSpec : ChangeSpec := { name := "chachaStreams", fn := fun _ => fun
  | [d1, d2, d3, d4] => { results := [.lit (.bool true)], args := [d1, d2, d3, d4] }
  | _ => none }
def chachaStreamsRow : OpenClaim := { program := "ytllaobhheokafaa", sum := "c8b311ce3bad420b1af3e6c18cc59b9f80c01b3d6da8652736236483f4bdd6ec", func := "casket/casketlaw15.ChachaStreams", spec := "chachaStreams", unfollowed := true, recurses := true, apart := false }
def ChachaStreamsSaid : Prop := chachaStreamsRow.holds Try.pinned (OpenSpec.ofChange chachaStreamsSpec)

/-- ITS FALSE NEIGHBOUR: 'it returns false'. Refute it at one input. -/
def chachaStreamsWrong : ChangeSpec := { name := "chachaStreams", fn := fun _ => fun
  | [d1, d2, d3, d4] => { results := [.lit (.bool false)], args := [d1, d2, d3, d4] }
  | _ => none }
def ChachaStreamsWrongFalsely : Prop := chachaStreamsRow.holds Try.pinned (OpenSpec.ofChange chachaStreamsWrong)

/-- 'casketlaw15.ChachaTwice': WHATEVER THE INPUT: true; the input reads as it did. -/
def chachaTwiceSpec : ChangeSpec := { name := "chachaTwice", fn := fun _ => fun
  | [d1, d2, d3, d4, d5] => { results := [.lit (.bool true)], args := [d1, d2, d3, d4, d5] }
  | _ => none }
def chachaTwiceRow : OpenClaim := { program := "ytllaobhheokafaa", sum := "c8b311ce3bad420b1af3e6c18cc59b9f80c01b3d6da8652736236483f4bdd6ec", func := "casket/casketlaw15.ChachaTwice", spec := "chachaTwice", unfollowed := true, recurses := true, apart := false }
def ChachaTwiceSaid : Prop := chachaTwiceRow.holds Try.pinned (OpenSpec.ofChange chachaTwiceSpec)

/-- ITS FALSE NEIGHBOUR: 'it returns false'. Refute it at one input. -/
def chachaTwiceWrong : ChangeSpec := { name := "chachaTwice", fn := fun _ => fun
  | [d1, d2, d3, d4, d5] => { results := [.lit (.bool false)], args := [d1, d2, d3, d4, d5] }
  | _ => none }
def ChachaTwiceWrongFalsely : Prop := chachaTwiceRow.holds Try.pinned (OpenSpec.ofChange chachaTwiceWrong)

/-- 'casketlaw15.ChachaBegins': WHATEVER THE INPUT: true; the input reads as it did. -/
def chachaBeginsSpec : ChangeSpec := { name := "chachaBegins", fn := fun _ => fun
  | [d1, d2, d3, d4, d5] => { results := [.lit (.bool true)], args := [d1, d2, d3, d4, d5] }
  | _ => none }
def chachaBeginsRow : OpenClaim := { program := "ytllaobhheokafaa", sum := "c8b311ce3bad420b1af3e6c18cc59b9f80c01b3d6da8652736236483f4bdd6ec", func := "casket/casketlaw15.ChachaBegins", spec := "chachaBegins", unfollowed := true, recurses := true, apart := false }
def ChachaBeginsSaid : Prop := chachaBeginsRow.holds Try.pinned (OpenSpec.ofChange chachaBeginsSpec)

/-- ITS FALSE NEIGHBOUR: 'it returns false'. Refute it at one input. -/
def chachaBeginsWrong : ChangeSpec := { name := "chachaBegins", fn := fun _ => fun
  | [d1, d2, d3, d4, d5] => { results := [.lit (.bool false)], args := [d1, d2, d3, d4, d5] }
  | _ => none }
def ChachaBeginsWrongFalsely : Prop := chachaBeginsRow.holds Try.pinned (OpenSpec.ofChange chachaBeginsWrong)

/-- 'casketlaw15.ChachaNoughts': WHATEVER THE INPUT: true; the input reads as it did. -/
def chachaNoughtsSpec : ChangeSpec := { name := "chachaNoughts", fn := fun _ => fun
  | [d1, d2, d3, d4] => { results := [.lit (.bool true)], args := [d1, d2, d3, d4] }
  | _ => none }
def chachaNoughtsRow : OpenClaim := { program := "ytllaobhheokafaa", sum := "c8b311ce3bad420b1af3e6c18cc59b9f80c01b3d6da8652736236483f4bdd6ec", func := "casket/casketlaw15.ChachaNoughts", spec := "chachaNoughts", unfollowed := true, recurses := true, apart := false }
def ChachaNoughtsSaid : Prop := chachaNoughtsRow.holds Try.pinned (OpenSpec.ofChange chachaNoughtsSpec)

/-- ITS FALSE NEIGHBOUR: 'it returns false'. Refute it at one input. -/
def chachaNoughtsWrong : ChangeSpec := { name := "chachaNoughts", fn := fun _ => fun
  | [d1, d2, d3, d4] => { results := [.lit (.bool false)], args := [d1, d2, d3, d4] }
  | _ => none }
def ChachaNoughtsWrongFalsely : Prop := chachaNoughtsRow.holds Try.pinned (OpenSpec.ofChange chachaNoughtsWrong)

/-- 'casketlaw16.PolyTags': WHATEVER THE INPUT: true; the input reads as it did. -/
def polyTagsSpec : ChangeSpec := { name := "polyTags", fn := fun _ => fun
  | [d1, d2] => { results := [.lit (.bool true)], args := [d1, d2] }
  | _ => none }
def polyTagsRow : OpenClaim := { program := "ytllaobhheokafaa", sum := "c8b311ce3bad420b1af3e6c18cc59b9f80c01b3d6da8652736236483f4bdd6ec", func := "casket/casketlaw16.PolyTags", spec := "polyTags", apart := false }
def PolyTagsSaid : Prop := polyTagsRow.holds Try.pinned (OpenSpec.ofChange polyTagsSpec)

/-- ITS FALSE NEIGHBOUR: 'it returns false'. Refute it at one input. -/
def polyTagsWrong : ChangeSpec := { name := "polyTags", fn := fun _ => fun
  | [d1, d2] => { results := [.lit (.bool false)], args := [d1, d2] }
  | _ => none }
def PolyTagsWrongFalsely : Prop := polyTagsRow.holds Try.pinned (OpenSpec.ofChange polyTagsWrong)

/-- 'casketlaw16.PolyParts': WHATEVER THE INPUT: true; the input reads as it did. -/
def polyPartsSpec : ChangeSpec := { name := "polyParts", fn := fun _ => fun
  | [d1, d2, d3] => { results := [.lit (.bool true)], args := [d1, d2, d3] }
  | _ => none }
def polyPartsRow : OpenClaim := { program := "ytllaobhheokafaa", sum := "c8b311ce3bad420b1af3e6c18cc59b9f80c01b3d6da8652736236483f4bdd6ec", func := "casket/casketlaw16.PolyParts", spec := "polyParts", apart := false }
def PolyPartsSaid : Prop := polyPartsRow.holds Try.pinned (OpenSpec.ofChange polyPartsSpec)

/-- ITS FALSE NEIGHBOUR: 'it returns false'. Refute it at one input. -/
def polyPartsWrong : ChangeSpec := { name := "polyParts", fn := fun _ => fun
  | [d1, d2, d3] => { results := [.lit (.bool false)], args := [d1, d2, d3] }
  | _ => none }
def PolyPartsWrongFalsely : Prop := polyPartsRow.holds Try.pinned (OpenSpec.ofChange polyPartsWrong)

/-- 'casketlaw16.PolyClamped': WHATEVER THE INPUT: true; the input reads as it did. -/
def polyClampedSpec : ChangeSpec := { name := "polyClamped", fn := fun _ => fun
  | [d1, d2, d3, d4] => { results := [.lit (.bool true)], args := [d1, d2, d3, d4] }
  | _ => none }
def polyClampedRow : OpenClaim := { program := "ytllaobhheokafaa", sum := "c8b311ce3bad420b1af3e6c18cc59b9f80c01b3d6da8652736236483f4bdd6ec", func := "casket/casketlaw16.PolyClamped", spec := "polyClamped", apart := false }
def PolyClampedSaid : Prop := polyClampedRow.holds Try.pinned (OpenSpec.ofChange polyClampedSpec)

/-- ITS FALSE NEIGHBOUR: 'it returns false'. Refute it at one input. -/
def polyClampedWrong : ChangeSpec := { name := "polyClamped", fn := fun _ => fun
  | [d1, d2, d3, d4] => { results := [.lit (.bool false)], args := [d1, d2, d3, d4] }
  | _ => none }
def PolyClampedWrongFalsely : Prop := polyClampedRow.holds Try.pinned (OpenSpec.ofChange polyClampedWrong)

/-- 'casketlaw16.PolyOne': WHATEVER THE INPUT: true; the input reads as it did. -/
def polyOneSpec : ChangeSpec := { name := "polyOne", fn := fun _ => fun
  | [d] => { results := [.lit (.bool true)], args := [d] }
  | _ => none }
def polyOneRow : OpenClaim := { program := "ytllaobhheokafaa", sum := "c8b311ce3bad420b1af3e6c18cc59b9f80c01b3d6da8652736236483f4bdd6ec", func := "casket/casketlaw16.PolyOne", spec := "polyOne", apart := false }
def PolyOneSaid : Prop := polyOneRow.holds Try.pinned (OpenSpec.ofChange polyOneSpec)

/-- ITS FALSE NEIGHBOUR: 'it returns false'. Refute it at one input. -/
def polyOneWrong : ChangeSpec := { name := "polyOne", fn := fun _ => fun
  | [d] => { results := [.lit (.bool false)], args := [d] }
  | _ => none }
def PolyOneWrongFalsely : Prop := polyOneRow.holds Try.pinned (OpenSpec.ofChange polyOneWrong)

/-- 'casketlaw16.PolyWhole': WHATEVER THE INPUT: true; the input reads as it did. -/
def polyWholeSpec : ChangeSpec := { name := "polyWhole", fn := fun _ => fun
  | [d] => { results := [.lit (.bool true)], args := [d] }
  | _ => none }
def polyWholeRow : OpenClaim := { program := "ytllaobhheokafaa", sum := "c8b311ce3bad420b1af3e6c18cc59b9f80c01b3d6da8652736236483f4bdd6ec", func := "casket/casketlaw16.PolyWhole", spec := "polyWhole", apart := false }
def PolyWholeSaid : Prop := polyWholeRow.holds Try.pinned (OpenSpec.ofChange polyWholeSpec)

/-- ITS FALSE NEIGHBOUR: 'it returns false'. Refute it at one input. -/
def polyWholeWrong : ChangeSpec := { name := "polyWhole", fn := fun _ => fun
  | [d] => { results := [.lit (.bool false)], args := [d] }
  | _ => none }
def PolyWholeWrongFalsely : Prop := polyWholeRow.holds Try.pinned (OpenSpec.ofChange polyWholeWrong)

/-- 'casketlaw17.AeadSeals': WHATEVER THE INPUT: true; the input reads as it did. -/
def aeadSealsSpec : ChangeSpec := { name := "aeadSeals", fn := fun _ => fun
  | [d1, d2, d3, d4] => { results := [.lit (.bool true)], args := [d1, d2, d3, d4] }
  | _ => none }
def aeadSealsRow : OpenClaim := { program := "ytllaobhheokafaa", sum := "c8b311ce3bad420b1af3e6c18cc59b9f80c01b3d6da8652736236483f4bdd6ec", func := "casket/casketlaw17.AeadSeals", spec := "aeadSeals", unfollowed := true, recurses := true, apart := false }
def AeadSealsSaid : Prop := aeadSealsRow.holds Try.pinned (OpenSpec.ofChange aeadSealsSpec)

/-- ITS FALSE NEIGHBOUR: 'it returns false'. Refute it at one input. -/
def aeadSealsWrong : ChangeSpec := { name := "aeadSeals", fn := fun _ => fun
  | [d1, d2, d3, d4] => { results := [.lit (.bool false)], args := [d1, d2, d3, d4] }
  | _ => none }
def AeadSealsWrongFalsely : Prop := aeadSealsRow.holds Try.pinned (OpenSpec.ofChange aeadSealsWrong)

/-- 'casketlaw17.AeadOpens': WHATEVER THE INPUT: true; the input reads as it did. -/
def aeadOpensSpec : ChangeSpec := { name := "aeadOpens", fn := fun _ => fun
  | [d1, d2, d3, d4] => { results := [.lit (.bool true)], args := [d1, d2, d3, d4] }
  | _ => none }
def aeadOpensRow : OpenClaim := { program := "ytllaobhheokafaa", sum := "c8b311ce3bad420b1af3e6c18cc59b9f80c01b3d6da8652736236483f4bdd6ec", func := "casket/casketlaw17.AeadOpens", spec := "aeadOpens", unfollowed := true, recurses := true, apart := false }
def AeadOpensSaid : Prop := aeadOpensRow.holds Try.pinned (OpenSpec.ofChange aeadOpensSpec)

/-- ITS FALSE NEIGHBOUR: 'it returns false'. Refute it at one input. -/
def aeadOpensWrong : ChangeSpec := { name := "aeadOpens", fn := fun _ => fun
  | [d1, d2, d3, d4] => { results := [.lit (.bool false)], args := [d1, d2, d3, d4] }
  | _ => none }
def AeadOpensWrongFalsely : Prop := aeadOpensRow.holds Try.pinned (OpenSpec.ofChange aeadOpensWrong)

/-- 'casketlaw17.AeadBack': WHATEVER THE INPUT: true; the input reads as it did. -/
def aeadBackSpec : ChangeSpec := { name := "aeadBack", fn := fun _ => fun
  | [d1, d2, d3, d4] => { results := [.lit (.bool true)], args := [d1, d2, d3, d4] }
  | _ => none }
def aeadBackRow : OpenClaim := { program := "ytllaobhheokafaa", sum := "c8b311ce3bad420b1af3e6c18cc59b9f80c01b3d6da8652736236483f4bdd6ec", func := "casket/casketlaw17.AeadBack", spec := "aeadBack", unfollowed := true, recurses := true, apart := false }
def AeadBackSaid : Prop := aeadBackRow.holds Try.pinned (OpenSpec.ofChange aeadBackSpec)

/-- ITS FALSE NEIGHBOUR: 'it returns false'. Refute it at one input. -/
def aeadBackWrong : ChangeSpec := { name := "aeadBack", fn := fun _ => fun
  | [d1, d2, d3, d4] => { results := [.lit (.bool false)], args := [d1, d2, d3, d4] }
  | _ => none }
def AeadBackWrongFalsely : Prop := aeadBackRow.holds Try.pinned (OpenSpec.ofChange aeadBackWrong)

/-- 'casketlaw17.AeadOnly': WHATEVER THE INPUT: true; the input reads as it did. -/
def aeadOnlySpec : ChangeSpec := { name := "aeadOnly", fn := fun _ => fun
  | [d1, d2, d3, d4] => { results := [.lit (.bool true)], args := [d1, d2, d3, d4] }
  | _ => none }
def aeadOnlyRow : OpenClaim := { program := "ytllaobhheokafaa", sum := "c8b311ce3bad420b1af3e6c18cc59b9f80c01b3d6da8652736236483f4bdd6ec", func := "casket/casketlaw17.AeadOnly", spec := "aeadOnly", unfollowed := true, recurses := true, apart := false }
def AeadOnlySaid : Prop := aeadOnlyRow.holds Try.pinned (OpenSpec.ofChange aeadOnlySpec)

/-- ITS FALSE NEIGHBOUR: 'it returns false'. Refute it at one input. -/
def aeadOnlyWrong : ChangeSpec := { name := "aeadOnly", fn := fun _ => fun
  | [d1, d2, d3, d4] => { results := [.lit (.bool false)], args := [d1, d2, d3, d4] }
  | _ => none }
def AeadOnlyWrongFalsely : Prop := aeadOnlyRow.holds Try.pinned (OpenSpec.ofChange aeadOnlyWrong)

/-- 'casketlaw17.AeadTurned': WHATEVER THE INPUT: true; the input reads as it did. -/
def aeadTurnedSpec : ChangeSpec := { name := "aeadTurned", fn := fun _ => fun
  | [d1, d2, d3, d4, d5, d6] => { results := [.lit (.bool true)], args := [d1, d2, d3, d4, d5, d6] }
  | _ => none }
def aeadTurnedRow : OpenClaim := { program := "ytllaobhheokafaa", sum := "c8b311ce3bad420b1af3e6c18cc59b9f80c01b3d6da8652736236483f4bdd6ec", func := "casket/casketlaw17.AeadTurned", spec := "aeadTurned", unfollowed := true, recurses := true, apart := false }
def AeadTurnedSaid : Prop := aeadTurnedRow.holds Try.pinned (OpenSpec.ofChange aeadTurnedSpec)

/-- ITS FALSE NEIGHBOUR: 'it returns false'. Refute it at one input. -/
def aeadTurnedWrong : ChangeSpec := { name := "aeadTurned", fn := fun _ => fun
  | [d1, d2, d3, d4, d5, d6] => { results := [.lit (.bool false)], args := [d1, d2, d3, d4, d5, d6] }
  | _ => none }
def AeadTurnedWrongFalsely : Prop := aeadTurnedRow.holds Try.pinned (OpenSpec.ofChange aeadTurnedWrong)

/-- 'casketlaw17.AeadBits': WHATEVER THE INPUT: true; the input reads as it did. -/
def aeadBitsSpec : ChangeSpec := { name := "aeadBits", fn := fun _ => fun
  | [d1, d2, d3, d4, d5] => { results := [.lit (.bool true)], args := [d1, d2, d3, d4, d5] }
  | _ => none }
def aeadBitsRow : OpenClaim := { program := "ytllaobhheokafaa", sum := "c8b311ce3bad420b1af3e6c18cc59b9f80c01b3d6da8652736236483f4bdd6ec", func := "casket/casketlaw17.AeadBits", spec := "aeadBits", unfollowed := true, recurses := true, apart := false }
def AeadBitsSaid : Prop := aeadBitsRow.holds Try.pinned (OpenSpec.ofChange aeadBitsSpec)

/-- ITS FALSE NEIGHBOUR: 'it returns false'. Refute it at one input. -/
def aeadBitsWrong : ChangeSpec := { name := "aeadBits", fn := fun _ => fun
  | [d1, d2, d3, d4, d5] => { results := [.lit (.bool false)], args := [d1, d2, d3, d4, d5] }
  | _ => none }
def AeadBitsWrongFalsely : Prop := aeadBitsRow.holds Try.pinned (OpenSpec.ofChange aeadBitsWrong)

/- THE SECOND FORM. 'bulk': how many values and letters a reading holds, each counted each time it is reached (what is shared counts as often as it is met; a slice's spare places count too). A statement '..UptoSaid' is the law's where the arguments, and the package variables that the reading takes, are together of bulk at most 1048576: NARROWER than '..Said'. Prove '..Said' where nothing that the law and all that it calls make is longer than what came in: it says more and counts as full. Else prove '..UptoSaid'. A law counts once. -/
mutual
def uptoBulk {H : Type} : DataW H → Nat
  | .lit (.string bytes) => bytes.length + 1
  | .lit _ => 1
  | .nil => 1
  | .ptr d => uptoBulk d + 1
  | .slice elems spare => uptoBulkAll elems + uptoBulkAll spare + 1
  | .agg parts => uptoBulkAll parts + 1
  | .iface _ d => uptoBulk d + 1
  | .map entries => uptoBulkEntries entries + 1
  | .held _ => 1
def uptoBulkAll {H : Type} : List (DataW H) → Nat
  | [] => 0
  | d :: r => uptoBulk d + uptoBulkAll r
def uptoBulkEntries {H : Type} : List (Lit × DataW H) → Nat
  | [] => 0
  | x :: r => uptoBulkEntry x + uptoBulkEntries r
def uptoBulkEntry {H : Type} : Lit × DataW H → Nat
  | (.string bytes, d) => bytes.length + uptoBulk d + 1
  | (_, d) => uptoBulk d + 1
 end
def uptoSmall : (H : Type) → List (DataW H) → Bool := fun _ ds => decide (uptoBulkAll ds ≤ 1048576)
def OpenSpec.upto (s : _root_.Go.ChangeSpec) : _root_.Go.OpenSpec := { _root_.Go.OpenSpec.ofChange s with cond := some uptoSmall }

/-- 'casketlaw15.ChachaQuarters', WHERE WHAT IT READS IS OF BULK AT MOST 1048576: true; the input reads as it did. -/
def chachaQuartersUptoRow : OpenClaim := { program := "ytllaobhheokafaa", sum := "c8b311ce3bad420b1af3e6c18cc59b9f80c01b3d6da8652736236483f4bdd6ec", func := "casket/casketlaw15.ChachaQuarters", spec := "chachaQuarters", apart := false, narrowed := true }
def ChachaQuartersUptoSaid : Prop := chachaQuartersUptoRow.holds Try.pinned (OpenSpec.upto chachaQuartersSpec)

/-- 'casketlaw15.ChachaBlocks', WHERE WHAT IT READS IS OF BULK AT MOST 1048576: true; the input reads as it did. -/
def chachaBlocksUptoRow : OpenClaim := { program := "ytllaobhheokafaa", sum := "c8b311ce3bad420b1af3e6c18cc59b9f80c01b3d6da8652736236483f4bdd6ec", func := "casket/casketlaw15.ChachaBlocks", spec := "chachaBlocks", unfollowed := true, recurses := true, apart := false, narrowed := true }
def ChachaBlocksUptoSaid : Prop := chachaBlocksUptoRow.holds Try.pinned (OpenSpec.upto chachaBlocksSpec)

/-- 'casketlaw15.ChachaStreams', WHERE WHAT IT READS IS OF BULK AT MOST 1048576: true; the input reads as it did. -/
def chachaStreamsUptoRow : OpenClaim := { program := "ytllaobhheokafaa", sum := "c8b311ce3bad420b1af3e6c18cc59b9f80c01b3d6da8652736236483f4bdd6ec", func := "casket/casketlaw15.ChachaStreams", spec := "chachaStreams", unfollowed := true, recurses := true, apart := false, narrowed := true }
def ChachaStreamsUptoSaid : Prop := chachaStreamsUptoRow.holds Try.pinned (OpenSpec.upto chachaStreamsSpec)

/-- 'casketlaw15.ChachaTwice', WHERE WHAT IT READS IS OF BULK AT MOST 1048576: true; the input reads as it did. -/
def chachaTwiceUptoRow : OpenClaim := { program := "ytllaobhheokafaa", sum := "c8b311ce3bad420b1af3e6c18cc59b9f80c01b3d6da8652736236483f4bdd6ec", func := "casket/casketlaw15.ChachaTwice", spec := "chachaTwice", unfollowed := true, recurses := true, apart := false, narrowed := true }
def ChachaTwiceUptoSaid : Prop := chachaTwiceUptoRow.holds Try.pinned (OpenSpec.upto chachaTwiceSpec)

/-- 'casketlaw15.ChachaBegins', WHERE WHAT IT READS IS OF BULK AT MOST 1048576: true; the input reads as it did. -/
def chachaBeginsUptoRow : OpenClaim := { program := "ytllaobhheokafaa", sum := "c8b311ce3bad420b1af3e6c18cc59b9f80c01b3d6da8652736236483f4bdd6ec", func := "casket/casketlaw15.ChachaBegins", spec := "chachaBegins", unfollowed := true, recurses := true, apart := false, narrowed := true }
def ChachaBeginsUptoSaid : Prop := chachaBeginsUptoRow.holds Try.pinned (OpenSpec.upto chachaBeginsSpec)

/-- 'casketlaw15.ChachaNoughts', WHERE WHAT IT READS IS OF BULK AT MOST 1048576: true; the input reads as it did. -/
def chachaNoughtsUptoRow : OpenClaim := { program := "ytllaobhheokafaa", sum := "c8b311ce3bad420b1af3e6c18cc59b9f80c01b3d6da8652736236483f4bdd6ec", func := "casket/casketlaw15.ChachaNoughts", spec := "chachaNoughts", unfollowed := true, recurses := true, apart := false, narrowed := true }
def ChachaNoughtsUptoSaid : Prop := chachaNoughtsUptoRow.holds Try.pinned (OpenSpec.upto chachaNoughtsSpec)

/-- 'casketlaw16.PolyTags', WHERE WHAT IT READS IS OF BULK AT MOST 1048576: true; the input reads as it did. -/
def polyTagsUptoRow : OpenClaim := { program := "ytllaobhheokafaa", sum := "c8b311ce3bad420b1af3e6c18cc59b9f80c01b3d6da8652736236483f4bdd6ec", func := "casket/casketlaw16.PolyTags", spec := "polyTags", apart := false, narrowed := true }
def PolyTagsUptoSaid : Prop := polyTagsUptoRow.holds Try.pinned (OpenSpec.upto polyTagsSpec)

/-- 'casketlaw16.PolyParts', WHERE WHAT IT READS IS OF BULK AT MOST 1048576: true; the input reads as it did. -/
def polyPartsUptoRow : OpenClaim := { program := "ytllaobhheokafaa", sum := "c8b311ce3bad420b1af3e6c18cc59b9f80c01b3d6da8652736236483f4bdd6ec", func := "casket/casketlaw16.PolyParts", spec := "polyParts", apart := false, narrowed := true }
def PolyPartsUptoSaid : Prop := polyPartsUptoRow.holds Try.pinned (OpenSpec.upto polyPartsSpec)

/-- 'casketlaw16.PolyClamped', WHERE WHAT IT READS IS OF BULK AT MOST 1048576: true; the input reads as it did. -/
def polyClampedUptoRow : OpenClaim := { program := "ytllaobhheokafaa", sum := "c8b311ce3bad420b1af3e6c18cc59b9f80c01b3d6da8652736236483f4bdd6ec", func := "casket/casketlaw16.PolyClamped", spec := "polyClamped", apart := false, narrowed := true }
def PolyClampedUptoSaid : Prop := polyClampedUptoRow.holds Try.pinned (OpenSpec.upto polyClampedSpec)

/-- 'casketlaw16.PolyOne', WHERE WHAT IT READS IS OF BULK AT MOST 1048576: true; the input reads as it did. -/
def polyOneUptoRow : OpenClaim := { program := "ytllaobhheokafaa", sum := "c8b311ce3bad420b1af3e6c18cc59b9f80c01b3d6da8652736236483f4bdd6ec", func := "casket/casketlaw16.PolyOne", spec := "polyOne", apart := false, narrowed := true }
def PolyOneUptoSaid : Prop := polyOneUptoRow.holds Try.pinned (OpenSpec.upto polyOneSpec)

/-- 'casketlaw16.PolyWhole', WHERE WHAT IT READS IS OF BULK AT MOST 1048576: true; the input reads as it did. -/
def polyWholeUptoRow : OpenClaim := { program := "ytllaobhheokafaa", sum := "c8b311ce3bad420b1af3e6c18cc59b9f80c01b3d6da8652736236483f4bdd6ec", func := "casket/casketlaw16.PolyWhole", spec := "polyWhole", apart := false, narrowed := true }
def PolyWholeUptoSaid : Prop := polyWholeUptoRow.holds Try.pinned (OpenSpec.upto polyWholeSpec)

/-- 'casketlaw17.AeadSeals', WHERE WHAT IT READS IS OF BULK AT MOST 1048576: true; the input reads as it did. -/
def aeadSealsUptoRow : OpenClaim := { program := "ytllaobhheokafaa", sum := "c8b311ce3bad420b1af3e6c18cc59b9f80c01b3d6da8652736236483f4bdd6ec", func := "casket/casketlaw17.AeadSeals", spec := "aeadSeals", unfollowed := true, recurses := true, apart := false, narrowed := true }
def AeadSealsUptoSaid : Prop := aeadSealsUptoRow.holds Try.pinned (OpenSpec.upto aeadSealsSpec)

/-- 'casketlaw17.AeadOpens', WHERE WHAT IT READS IS OF BULK AT MOST 1048576: true; the input reads as it did. -/
def aeadOpensUptoRow : OpenClaim := { program := "ytllaobhheokafaa", sum := "c8b311ce3bad420b1af3e6c18cc59b9f80c01b3d6da8652736236483f4bdd6ec", func := "casket/casketlaw17.AeadOpens", spec := "aeadOpens", unfollowed := true, recurses := true, apart := false, narrowed := true }
def AeadOpensUptoSaid : Prop := aeadOpensUptoRow.holds Try.pinned (OpenSpec.upto aeadOpensSpec)

/-- 'casketlaw17.AeadBack', WHERE WHAT IT READS IS OF BULK AT MOST 1048576: true; the input reads as it did. -/
def aeadBackUptoRow : OpenClaim := { program := "ytllaobhheokafaa", sum := "c8b311ce3bad420b1af3e6c18cc59b9f80c01b3d6da8652736236483f4bdd6ec", func := "casket/casketlaw17.AeadBack", spec := "aeadBack", unfollowed := true, recurses := true, apart := false, narrowed := true }
def AeadBackUptoSaid : Prop := aeadBackUptoRow.holds Try.pinned (OpenSpec.upto aeadBackSpec)

/-- 'casketlaw17.AeadOnly', WHERE WHAT IT READS IS OF BULK AT MOST 1048576: true; the input reads as it did. -/
def aeadOnlyUptoRow : OpenClaim := { program := "ytllaobhheokafaa", sum := "c8b311ce3bad420b1af3e6c18cc59b9f80c01b3d6da8652736236483f4bdd6ec", func := "casket/casketlaw17.AeadOnly", spec := "aeadOnly", unfollowed := true, recurses := true, apart := false, narrowed := true }
def AeadOnlyUptoSaid : Prop := aeadOnlyUptoRow.holds Try.pinned (OpenSpec.upto aeadOnlySpec)

/-- 'casketlaw17.AeadTurned', WHERE WHAT IT READS IS OF BULK AT MOST 1048576: true; the input reads as it did. -/
def aeadTurnedUptoRow : OpenClaim := { program := "ytllaobhheokafaa", sum := "c8b311ce3bad420b1af3e6c18cc59b9f80c01b3d6da8652736236483f4bdd6ec", func := "casket/casketlaw17.AeadTurned", spec := "aeadTurned", unfollowed := true, recurses := true, apart := false, narrowed := true }
def AeadTurnedUptoSaid : Prop := aeadTurnedUptoRow.holds Try.pinned (OpenSpec.upto aeadTurnedSpec)

/-- 'casketlaw17.AeadBits', WHERE WHAT IT READS IS OF BULK AT MOST 1048576: true; the input reads as it did. -/
def aeadBitsUptoRow : OpenClaim := { program := "ytllaobhheokafaa", sum := "c8b311ce3bad420b1af3e6c18cc59b9f80c01b3d6da8652736236483f4bdd6ec", func := "casket/casketlaw17.AeadBits", spec := "aeadBits", unfollowed := true, recurses := true, apart := false, narrowed := true }
def AeadBitsUptoSaid : Prop := aeadBitsUptoRow.holds Try.pinned (OpenSpec.upto aeadBitsSpec)

end Rows
end Go.Proofs.Ytllaobhheokafaa
