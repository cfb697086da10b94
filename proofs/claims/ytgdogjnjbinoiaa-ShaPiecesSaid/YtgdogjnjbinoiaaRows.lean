/-
  No cell of these rows narrows 'for every input' (looked for: loops, veiled, ifaces, maps, wideKeys, modest, calm, conditions, laid).
  DERIVED. THE GIVEN ROWS OF THIS SEAT. 16 by the template 'for every input the law returns true; each argument reads behind the call as it read before'; 0 by the template 'total and deterministic' (their statements: YtgdogjnjbinoiaaTotals.lean).
  GIVEN WITH THE SEED: the statements are not yours to turn. If you find one false, say at which input.
  Laid BY PROGRAM, IN A SANDBOX (cutbox-rows.mjs): the forced cells as the released guide's own fill.sh prints them over the translation 9979667b016494e6… (all of the seat's roots in one cut). By AI agents, Wed Nov 11 2026. No macro, syntax, notation, axiom, sorry.
-/
import Derived.Test.YtgdogjnjbinoiaaChecked
import GoSem.Claim
import GoSem.ClaimJoined
import GoSem.ClaimMapViews
import Derived.JoinedTies
import Derived.KernelRfl
namespace Go.Proofs.Ytgdogjnjbinoiaa
/- THE CELL 'sum', in the pinned program and in every row, IS THE sha256 OF THE DUMP (.gsa) THAT YtgdogjnjbinoiaaProg.lean LOADS. Nothing in Lean hashes anything: it is a label: what it is worth is what the hold of that sum in a sandbox is worth. -/
noncomputable def Try.pinned : Pinned := { name := "ytgdogjnjbinoiaa", sum := "9979667b016494e6ccd52d1fcab68d948c0be2747b6c695b18d28caf5fbd4f36", checked := Try.checked }
namespace Rows
def none {H : Type} : Left H := { results := [], args := [] }

/-- 'casketlaw13.ShaSums': WHATEVER THE INPUT: true; the input reads as it did. -/
def shaSumsSpec : ChangeSpec := { name := "shaSums", fn := fun _ => fun
  | [d] => { results := [.lit (.bool true)], args := [d] }
  | _ => none }
def shaSumsRow : OpenClaim := { program := "ytgdogjnjbinoiaa", sum := "9979667b016494e6ccd52d1fcab68d948c0be2747b6c695b18d28caf5fbd4f36", func := "casket/casketlaw13.ShaSums", spec := "shaSums", recurses := true, apart := false }
def ShaSumsSaid : Prop := shaSumsRow.holds Try.pinned (OpenSpec.ofChange shaSumsSpec)

/-- ITS FALSE NEIGHBOUR: 'it returns false'. Refute it at one input. -/
def shaSumsWrong : ChangeSpec := { name := "shaSums", fn := fun _ => fun
  | [d] => { results := [.lit (.bool false)], args := [d] }
  | _ => none }
def ShaSumsWrongFalsely : Prop := shaSumsRow.holds Try.pinned (OpenSpec.ofChange shaSumsWrong)

/-- 'casketlaw13.ShaCut': WHATEVER THE INPUT: true; the input reads as it did. -/
def shaCutSpec : ChangeSpec := { name := "shaCut", fn := fun _ => fun
  | [d1, d2] => { results := [.lit (.bool true)], args := [d1, d2] }
  | _ => none }
def shaCutRow : OpenClaim := { program := "ytgdogjnjbinoiaa", sum := "9979667b016494e6ccd52d1fcab68d948c0be2747b6c695b18d28caf5fbd4f36", func := "casket/casketlaw13.ShaCut", spec := "shaCut", recurses := true, apart := false }
def ShaCutSaid : Prop := shaCutRow.holds Try.pinned (OpenSpec.ofChange shaCutSpec)

/-- ITS FALSE NEIGHBOUR: 'it returns false'. Refute it at one input. -/
def shaCutWrong : ChangeSpec := { name := "shaCut", fn := fun _ => fun
  | [d1, d2] => { results := [.lit (.bool false)], args := [d1, d2] }
  | _ => none }
def ShaCutWrongFalsely : Prop := shaCutRow.holds Try.pinned (OpenSpec.ofChange shaCutWrong)

/-- 'casketlaw13.ShaLong': WHATEVER THE INPUT: true; the input reads as it did. -/
def shaLongSpec : ChangeSpec := { name := "shaLong", fn := fun _ => fun
  | [d1, d2] => { results := [.lit (.bool true)], args := [d1, d2] }
  | _ => none }
def shaLongRow : OpenClaim := { program := "ytgdogjnjbinoiaa", sum := "9979667b016494e6ccd52d1fcab68d948c0be2747b6c695b18d28caf5fbd4f36", func := "casket/casketlaw13.ShaLong", spec := "shaLong", recurses := true, apart := false }
def ShaLongSaid : Prop := shaLongRow.holds Try.pinned (OpenSpec.ofChange shaLongSpec)

/-- ITS FALSE NEIGHBOUR: 'it returns false'. Refute it at one input. -/
def shaLongWrong : ChangeSpec := { name := "shaLong", fn := fun _ => fun
  | [d1, d2] => { results := [.lit (.bool false)], args := [d1, d2] }
  | _ => none }
def ShaLongWrongFalsely : Prop := shaLongRow.holds Try.pinned (OpenSpec.ofChange shaLongWrong)

/-- 'casketlaw13.ShaOthers': WHATEVER THE INPUT: true; the input reads as it did. -/
def shaOthersSpec : ChangeSpec := { name := "shaOthers", fn := fun _ => fun
  | [d1, d2] => { results := [.lit (.bool true)], args := [d1, d2] }
  | _ => none }
def shaOthersRow : OpenClaim := { program := "ytgdogjnjbinoiaa", sum := "9979667b016494e6ccd52d1fcab68d948c0be2747b6c695b18d28caf5fbd4f36", func := "casket/casketlaw13.ShaOthers", spec := "shaOthers", recurses := true, apart := false }
def ShaOthersSaid : Prop := shaOthersRow.holds Try.pinned (OpenSpec.ofChange shaOthersSpec)

/-- ITS FALSE NEIGHBOUR: 'it returns false'. Refute it at one input. -/
def shaOthersWrong : ChangeSpec := { name := "shaOthers", fn := fun _ => fun
  | [d1, d2] => { results := [.lit (.bool false)], args := [d1, d2] }
  | _ => none }
def ShaOthersWrongFalsely : Prop := shaOthersRow.holds Try.pinned (OpenSpec.ofChange shaOthersWrong)

/-- 'casketlaw13.ShaPieces': WHATEVER THE INPUT: true; the input reads as it did. -/
def shaPiecesSpec : ChangeSpec := { name := "shaPieces", fn := fun _ => fun
  | [d] => { results := [.lit (.bool true)], args := [d] }
  | _ => none }
def shaPiecesRow : OpenClaim := { program := "ytgdogjnjbinoiaa", sum := "9979667b016494e6ccd52d1fcab68d948c0be2747b6c695b18d28caf5fbd4f36", func := "casket/casketlaw13.ShaPieces", spec := "shaPieces", recurses := true, apart := false }
def ShaPiecesSaid : Prop := shaPiecesRow.holds Try.pinned (OpenSpec.ofChange shaPiecesSpec)

/-- ITS FALSE NEIGHBOUR: 'it returns false'. Refute it at one input. -/
def shaPiecesWrong : ChangeSpec := { name := "shaPieces", fn := fun _ => fun
  | [d] => { results := [.lit (.bool false)], args := [d] }
  | _ => none }
def ShaPiecesWrongFalsely : Prop := shaPiecesRow.holds Try.pinned (OpenSpec.ofChange shaPiecesWrong)

/-- 'casketlaw13.ShaNone': WHATEVER THE INPUT: true; the input reads as it did. -/
def shaNoneSpec : ChangeSpec := { name := "shaNone", fn := fun _ => fun
  | [d] => { results := [.lit (.bool true)], args := [d] }
  | _ => none }
def shaNoneRow : OpenClaim := { program := "ytgdogjnjbinoiaa", sum := "9979667b016494e6ccd52d1fcab68d948c0be2747b6c695b18d28caf5fbd4f36", func := "casket/casketlaw13.ShaNone", spec := "shaNone", recurses := true, apart := false }
def ShaNoneSaid : Prop := shaNoneRow.holds Try.pinned (OpenSpec.ofChange shaNoneSpec)

/-- ITS FALSE NEIGHBOUR: 'it returns false'. Refute it at one input. -/
def shaNoneWrong : ChangeSpec := { name := "shaNone", fn := fun _ => fun
  | [d] => { results := [.lit (.bool false)], args := [d] }
  | _ => none }
def ShaNoneWrongFalsely : Prop := shaNoneRow.holds Try.pinned (OpenSpec.ofChange shaNoneWrong)

/-- 'casketlaw14.HmacTags': WHATEVER THE INPUT: true; the input reads as it did. -/
def hmacTagsSpec : ChangeSpec := { name := "hmacTags", fn := fun _ => fun
  | [d1, d2, d3] => { results := [.lit (.bool true)], args := [d1, d2, d3] }
  | _ => none }
def hmacTagsRow : OpenClaim := { program := "ytgdogjnjbinoiaa", sum := "9979667b016494e6ccd52d1fcab68d948c0be2747b6c695b18d28caf5fbd4f36", func := "casket/casketlaw14.HmacTags", spec := "hmacTags", recurses := true, apart := false }
def HmacTagsSaid : Prop := hmacTagsRow.holds Try.pinned (OpenSpec.ofChange hmacTagsSpec)

/-- ITS FALSE NEIGHBOUR: 'it returns false'. Refute it at one input. -/
def hmacTagsWrong : ChangeSpec := { name := "hmacTags", fn := fun _ => fun
  | [d1, d2, d3] => { results := [.lit (.bool false)], args := [d1, d2, d3] }
  | _ => none }
def HmacTagsWrongFalsely : Prop := hmacTagsRow.holds Try.pinned (OpenSpec.ofChange hmacTagsWrong)

/-- 'casketlaw14.HmacBits': WHATEVER THE INPUT: true; the input reads as it did. -/
def hmacBitsSpec : ChangeSpec := { name := "hmacBits", fn := fun _ => fun
  | [d1, d2, d3, d4] => { results := [.lit (.bool true)], args := [d1, d2, d3, d4] }
  | _ => none }
def hmacBitsRow : OpenClaim := { program := "ytgdogjnjbinoiaa", sum := "9979667b016494e6ccd52d1fcab68d948c0be2747b6c695b18d28caf5fbd4f36", func := "casket/casketlaw14.HmacBits", spec := "hmacBits", recurses := true, apart := false }
def HmacBitsSaid : Prop := hmacBitsRow.holds Try.pinned (OpenSpec.ofChange hmacBitsSpec)

/-- ITS FALSE NEIGHBOUR: 'it returns false'. Refute it at one input. -/
def hmacBitsWrong : ChangeSpec := { name := "hmacBits", fn := fun _ => fun
  | [d1, d2, d3, d4] => { results := [.lit (.bool false)], args := [d1, d2, d3, d4] }
  | _ => none }
def HmacBitsWrongFalsely : Prop := hmacBitsRow.holds Try.pinned (OpenSpec.ofChange hmacBitsWrong)

/-- 'casketlaw14.HmacKeys': WHATEVER THE INPUT: true; the input reads as it did. -/
def hmacKeysSpec : ChangeSpec := { name := "hmacKeys", fn := fun _ => fun
  | [d1, d2, d3] => { results := [.lit (.bool true)], args := [d1, d2, d3] }
  | _ => none }
def hmacKeysRow : OpenClaim := { program := "ytgdogjnjbinoiaa", sum := "9979667b016494e6ccd52d1fcab68d948c0be2747b6c695b18d28caf5fbd4f36", func := "casket/casketlaw14.HmacKeys", spec := "hmacKeys", recurses := true, apart := false }
def HmacKeysSaid : Prop := hmacKeysRow.holds Try.pinned (OpenSpec.ofChange hmacKeysSpec)

/-- ITS FALSE NEIGHBOUR: 'it returns false'. Refute it at one input. -/
def hmacKeysWrong : ChangeSpec := { name := "hmacKeys", fn := fun _ => fun
  | [d1, d2, d3] => { results := [.lit (.bool false)], args := [d1, d2, d3] }
  | _ => none }
def HmacKeysWrongFalsely : Prop := hmacKeysRow.holds Try.pinned (OpenSpec.ofChange hmacKeysWrong)

/-- 'casketlaw14.HmacSame': WHATEVER THE INPUT: true; the input reads as it did. -/
def hmacSameSpec : ChangeSpec := { name := "hmacSame", fn := fun _ => fun
  | [d1, d2, d3, d4] => { results := [.lit (.bool true)], args := [d1, d2, d3, d4] }
  | _ => none }
def hmacSameRow : OpenClaim := { program := "ytgdogjnjbinoiaa", sum := "9979667b016494e6ccd52d1fcab68d948c0be2747b6c695b18d28caf5fbd4f36", func := "casket/casketlaw14.HmacSame", spec := "hmacSame", recurses := true, apart := false }
def HmacSameSaid : Prop := hmacSameRow.holds Try.pinned (OpenSpec.ofChange hmacSameSpec)

/-- ITS FALSE NEIGHBOUR: 'it returns false'. Refute it at one input. -/
def hmacSameWrong : ChangeSpec := { name := "hmacSame", fn := fun _ => fun
  | [d1, d2, d3, d4] => { results := [.lit (.bool false)], args := [d1, d2, d3, d4] }
  | _ => none }
def HmacSameWrongFalsely : Prop := hmacSameRow.holds Try.pinned (OpenSpec.ofChange hmacSameWrong)

/-- 'casketlaw14.HmacExpands': WHATEVER THE INPUT: true; the input reads as it did. -/
def hmacExpandsSpec : ChangeSpec := { name := "hmacExpands", fn := fun _ => fun
  | [d1, d2, d3] => { results := [.lit (.bool true)], args := [d1, d2, d3] }
  | _ => none }
def hmacExpandsRow : OpenClaim := { program := "ytgdogjnjbinoiaa", sum := "9979667b016494e6ccd52d1fcab68d948c0be2747b6c695b18d28caf5fbd4f36", func := "casket/casketlaw14.HmacExpands", spec := "hmacExpands", unfollowed := true, recurses := true, apart := false }
def HmacExpandsSaid : Prop := hmacExpandsRow.holds Try.pinned (OpenSpec.ofChange hmacExpandsSpec)

/-- ITS FALSE NEIGHBOUR: 'it returns false'. Refute it at one input. -/
def hmacExpandsWrong : ChangeSpec := { name := "hmacExpands", fn := fun _ => fun
  | [d1, d2, d3] => { results := [.lit (.bool false)], args := [d1, d2, d3] }
  | _ => none }
def HmacExpandsWrongFalsely : Prop := hmacExpandsRow.holds Try.pinned (OpenSpec.ofChange hmacExpandsWrong)

/-- 'casketlaw14.HmacLonger': WHATEVER THE INPUT: true; the input reads as it did. -/
def hmacLongerSpec : ChangeSpec := { name := "hmacLonger", fn := fun _ => fun
  | [d1, d2, d3, d4] => { results := [.lit (.bool true)], args := [d1, d2, d3, d4] }
  | _ => none }
def hmacLongerRow : OpenClaim := { program := "ytgdogjnjbinoiaa", sum := "9979667b016494e6ccd52d1fcab68d948c0be2747b6c695b18d28caf5fbd4f36", func := "casket/casketlaw14.HmacLonger", spec := "hmacLonger", unfollowed := true, recurses := true, apart := false }
def HmacLongerSaid : Prop := hmacLongerRow.holds Try.pinned (OpenSpec.ofChange hmacLongerSpec)

/-- ITS FALSE NEIGHBOUR: 'it returns false'. Refute it at one input. -/
def hmacLongerWrong : ChangeSpec := { name := "hmacLonger", fn := fun _ => fun
  | [d1, d2, d3, d4] => { results := [.lit (.bool false)], args := [d1, d2, d3, d4] }
  | _ => none }
def HmacLongerWrongFalsely : Prop := hmacLongerRow.holds Try.pinned (OpenSpec.ofChange hmacLongerWrong)

/-- 'casketlaw18.KeysDerives': WHATEVER THE INPUT: true; the input reads as it did. -/
def keysDerivesSpec : ChangeSpec := { name := "keysDerives", fn := fun _ => fun
  | [d1, d2, d3] => { results := [.lit (.bool true)], args := [d1, d2, d3] }
  | _ => none }
def keysDerivesRow : OpenClaim := { program := "ytgdogjnjbinoiaa", sum := "9979667b016494e6ccd52d1fcab68d948c0be2747b6c695b18d28caf5fbd4f36", func := "casket/casketlaw18.KeysDerives", spec := "keysDerives", unfollowed := true, recurses := true, apart := false }
def KeysDerivesSaid : Prop := keysDerivesRow.holds Try.pinned (OpenSpec.ofChange keysDerivesSpec)

/-- ITS FALSE NEIGHBOUR: 'it returns false'. Refute it at one input. -/
def keysDerivesWrong : ChangeSpec := { name := "keysDerives", fn := fun _ => fun
  | [d1, d2, d3] => { results := [.lit (.bool false)], args := [d1, d2, d3] }
  | _ => none }
def KeysDerivesWrongFalsely : Prop := keysDerivesRow.holds Try.pinned (OpenSpec.ofChange keysDerivesWrong)

/-- 'casketlaw18.KeysApart': WHATEVER THE INPUT: true; the input reads as it did. -/
def keysApartSpec : ChangeSpec := { name := "keysApart", fn := fun _ => fun
  | [d1, d2, d3, d4, d5] => { results := [.lit (.bool true)], args := [d1, d2, d3, d4, d5] }
  | _ => none }
def keysApartRow : OpenClaim := { program := "ytgdogjnjbinoiaa", sum := "9979667b016494e6ccd52d1fcab68d948c0be2747b6c695b18d28caf5fbd4f36", func := "casket/casketlaw18.KeysApart", spec := "keysApart", unfollowed := true, recurses := true, apart := false }
def KeysApartSaid : Prop := keysApartRow.holds Try.pinned (OpenSpec.ofChange keysApartSpec)

/-- ITS FALSE NEIGHBOUR: 'it returns false'. Refute it at one input. -/
def keysApartWrong : ChangeSpec := { name := "keysApart", fn := fun _ => fun
  | [d1, d2, d3, d4, d5] => { results := [.lit (.bool false)], args := [d1, d2, d3, d4, d5] }
  | _ => none }
def KeysApartWrongFalsely : Prop := keysApartRow.holds Try.pinned (OpenSpec.ofChange keysApartWrong)

/-- 'casketlaw18.KeysNonces': WHATEVER THE INPUT: true; the input reads as it did. -/
def keysNoncesSpec : ChangeSpec := { name := "keysNonces", fn := fun _ => fun
  | [d1, d2, d3] => { results := [.lit (.bool true)], args := [d1, d2, d3] }
  | _ => none }
def keysNoncesRow : OpenClaim := { program := "ytgdogjnjbinoiaa", sum := "9979667b016494e6ccd52d1fcab68d948c0be2747b6c695b18d28caf5fbd4f36", func := "casket/casketlaw18.KeysNonces", spec := "keysNonces", unfollowed := true, recurses := true, apart := false }
def KeysNoncesSaid : Prop := keysNoncesRow.holds Try.pinned (OpenSpec.ofChange keysNoncesSpec)

/-- ITS FALSE NEIGHBOUR: 'it returns false'. Refute it at one input. -/
def keysNoncesWrong : ChangeSpec := { name := "keysNonces", fn := fun _ => fun
  | [d1, d2, d3] => { results := [.lit (.bool false)], args := [d1, d2, d3] }
  | _ => none }
def KeysNoncesWrongFalsely : Prop := keysNoncesRow.holds Try.pinned (OpenSpec.ofChange keysNoncesWrong)

/-- 'casketlaw18.KeysTree': WHATEVER THE INPUT: true; the input reads as it did. -/
def keysTreeSpec : ChangeSpec := { name := "keysTree", fn := fun _ => fun
  | [d1, d2, d3, d4] => { results := [.lit (.bool true)], args := [d1, d2, d3, d4] }
  | _ => none }
def keysTreeRow : OpenClaim := { program := "ytgdogjnjbinoiaa", sum := "9979667b016494e6ccd52d1fcab68d948c0be2747b6c695b18d28caf5fbd4f36", func := "casket/casketlaw18.KeysTree", spec := "keysTree", unfollowed := true, recurses := true, apart := false }
def KeysTreeSaid : Prop := keysTreeRow.holds Try.pinned (OpenSpec.ofChange keysTreeSpec)

/-- ITS FALSE NEIGHBOUR: 'it returns false'. Refute it at one input. -/
def keysTreeWrong : ChangeSpec := { name := "keysTree", fn := fun _ => fun
  | [d1, d2, d3, d4] => { results := [.lit (.bool false)], args := [d1, d2, d3, d4] }
  | _ => none }
def KeysTreeWrongFalsely : Prop := keysTreeRow.holds Try.pinned (OpenSpec.ofChange keysTreeWrong)

/- THE SECOND FORM. 'bulk': how many values and letters a reading holds, each counted each time it is reached (what is shared counts as often as it is met; a slice's spare places count too). A statement '..UptoSaid' is the law's where the arguments, and the package variables that the reading takes, are together of bulk at most 1048576: NARROWER than '..Said'. Prove '..Said' where nothing that the law and all that it calls make is longer than what came in: it says more and counts as full. Else prove '..UptoSaid'. A law counts once. -/
mutual
def uptoBulk {H : Type} : DataW H → Nat
  | .lit (.string bytes) => bytes.length + 1
  | .lit _ => 1
  | .nil => 1
  | .ptr d => uptoBulk d + 1
  | .slice elems spare => uptoBulkAll elems + uptoBulkAll spare + 1
  | .agg parts => uptoBulkAll parts + 1
  | .iface _ d => uptoBulk d + 1
  | .map entries => uptoBulkEntries entries + 1
  | .held _ => 1
def uptoBulkAll {H : Type} : List (DataW H) → Nat
  | [] => 0
  | d :: r => uptoBulk d + uptoBulkAll r
def uptoBulkEntries {H : Type} : List (Lit × DataW H) → Nat
  | [] => 0
  | x :: r => uptoBulkEntry x + uptoBulkEntries r
def uptoBulkEntry {H : Type} : Lit × DataW H → Nat
  | (.string bytes, d) => bytes.length + uptoBulk d + 1
  | (_, d) => uptoBulk d + 1
 end
def uptoSmall : (H : Type) → List (DataW H) → Bool := fun _ ds => decide (uptoBulkAll ds ≤ 1048576)
def OpenSpec.upto (s : _root_.Go.ChangeSpec) : _root_.Go.OpenSpec := { _root_.Go.OpenSpec.ofChange s with cond := some uptoSmall }

/-- 'casketlaw13.ShaSums', WHERE WHAT IT READS IS OF BULK AT MOST 1048576: true; the input reads as it did. -/
def shaSumsUptoRow : OpenClaim := { program := "ytgdogjnjbinoiaa", sum := "9979667b016494e6ccd52d1fcab68d948c0be2747b6c695b18d28caf5fbd4f36", func := "casket/casketlaw13.ShaSums", spec := "shaSums", recurses := true, apart := false, narrowed := true }
def ShaSumsUptoSaid : Prop := shaSumsUptoRow.holds Try.pinned (OpenSpec.upto shaSumsSpec)

/-- 'casketlaw13.ShaCut', WHERE WHAT IT READS IS OF BULK AT MOST 1048576: true; the input reads as it did. -/
def shaCutUptoRow : OpenClaim := { program := "ytgdogjnjbinoiaa", sum := "9979667b016494e6ccd52d1fcab68d948c0be2747b6c695b18d28caf5fbd4f36", func := "casket/casketlaw13.ShaCut", spec := "shaCut", recurses := true, apart := false, narrowed := true }
def ShaCutUptoSaid : Prop := shaCutUptoRow.holds Try.pinned (OpenSpec.upto shaCutSpec)

/-- 'casketlaw13.ShaLong', WHERE WHAT IT READS IS OF BULK AT MOST 1048576: true; the input reads as it did. -/
def shaLongUptoRow : OpenClaim := { program := "ytgdogjnjbinoiaa", sum := "9979667b016494e6ccd52d1fcab68d948c0be2747b6c695b18d28caf5fbd4f36", func := "casket/casketlaw13.ShaLong", spec := "shaLong", recurses := true, apart := false, narrowed := true }
def ShaLongUptoSaid : Prop := shaLongUptoRow.holds Try.pinned (OpenSpec.upto shaLongSpec)

/-- 'casketlaw13.ShaOthers', WHERE WHAT IT READS IS OF BULK AT MOST 1048576: true; the input reads as it did. -/
def shaOthersUptoRow : OpenClaim := { program := "ytgdogjnjbinoiaa", sum := "9979667b016494e6ccd52d1fcab68d948c0be2747b6c695b18d28caf5fbd4f36", func := "casket/casketlaw13.ShaOthers", spec := "shaOthers", recurses := true, apart := false, narrowed := true }
def ShaOthersUptoSaid : Prop := shaOthersUptoRow.holds Try.pinned (OpenSpec.upto shaOthersSpec)

/-- 'casketlaw13.ShaPieces', WHERE WHAT IT READS IS OF BULK AT MOST 1048576: true; the input reads as it did. -/
def shaPiecesUptoRow : OpenClaim := { program := "ytgdogjnjbinoiaa", sum := "9979667b016494e6ccd52d1fcab68d948c0be2747b6c695b18d28caf5fbd4f36", func := "casket/casketlaw13.ShaPieces", spec := "shaPieces", recurses := true, apart := false, narrowed := true }
def ShaPiecesUptoSaid : Prop := shaPiecesUptoRow.holds Try.pinned (OpenSpec.upto shaPiecesSpec)

/-- 'casketlaw13.ShaNone', WHERE WHAT IT READS IS OF BULK AT MOST 1048576: true; the input reads as it did. -/
def shaNoneUptoRow : OpenClaim := { program := "ytgdogjnjbinoiaa", sum := "9979667b016494e6ccd52d1fcab68d948c0be2747b6c695b18d28caf5fbd4f36", func := "casket/casketlaw13.ShaNone", spec := "shaNone", recurses := true, apart := false, narrowed := true }
def ShaNoneUptoSaid : Prop := shaNoneUptoRow.holds Try.pinned (OpenSpec.upto shaNoneSpec)

/-- 'casketlaw14.HmacTags', WHERE WHAT IT READS IS OF BULK AT MOST 1048576: true; the input reads as it did. -/
def hmacTagsUptoRow : OpenClaim := { program := "ytgdogjnjbinoiaa", sum := "9979667b016494e6ccd52d1fcab68d948c0be2747b6c695b18d28caf5fbd4f36", func := "casket/casketlaw14.HmacTags", spec := "hmacTags", recurses := true, apart := false, narrowed := true }
def HmacTagsUptoSaid : Prop := hmacTagsUptoRow.holds Try.pinned (OpenSpec.upto hmacTagsSpec)

/-- 'casketlaw14.HmacBits', WHERE WHAT IT READS IS OF BULK AT MOST 1048576: true; the input reads as it did. -/
def hmacBitsUptoRow : OpenClaim := { program := "ytgdogjnjbinoiaa", sum := "9979667b016494e6ccd52d1fcab68d948c0be2747b6c695b18d28caf5fbd4f36", func := "casket/casketlaw14.HmacBits", spec := "hmacBits", recurses := true, apart := false, narrowed := true }
def HmacBitsUptoSaid : Prop := hmacBitsUptoRow.holds Try.pinned (OpenSpec.upto hmacBitsSpec)

/-- 'casketlaw14.HmacKeys', WHERE WHAT IT READS IS OF BULK AT MOST 1048576: true; the input reads as it did. -/
def hmacKeysUptoRow : OpenClaim := { program := "ytgdogjnjbinoiaa", sum := "9979667b016494e6ccd52d1fcab68d948c0be2747b6c695b18d28caf5fbd4f36", func := "casket/casketlaw14.HmacKeys", spec := "hmacKeys", recurses := true, apart := false, narrowed := true }
def HmacKeysUptoSaid : Prop := hmacKeysUptoRow.holds Try.pinned (OpenSpec.upto hmacKeysSpec)

/-- 'casketlaw14.HmacSame', WHERE WHAT IT READS IS OF BULK AT MOST 1048576: true; the input reads as it did. -/
def hmacSameUptoRow : OpenClaim := { program := "ytgdogjnjbinoiaa", sum := "9979667b016494e6ccd52d1fcab68d948c0be2747b6c695b18d28caf5fbd4f36", func := "casket/casketlaw14.HmacSame", spec := "hmacSame", recurses := true, apart := false, narrowed := true }
def HmacSameUptoSaid : Prop := hmacSameUptoRow.holds Try.pinned (OpenSpec.upto hmacSameSpec)

/-- 'casketlaw14.HmacExpands', WHERE WHAT IT READS IS OF BULK AT MOST 1048576: true; the input reads as it did. -/
def hmacExpandsUptoRow : OpenClaim := { program := "ytgdogjnjbinoiaa", sum := "9979667b016494e6ccd52d1fcab68d948c0be2747b6c695b18d28caf5fbd4f36", func := "casket/casketlaw14.HmacExpands", spec := "hmacExpands", unfollowed := true, recurses := true, apart := false, narrowed := true }
def HmacExpandsUptoSaid : Prop := hmacExpandsUptoRow.holds Try.pinned (OpenSpec.upto hmacExpandsSpec)

/-- 'casketlaw14.HmacLonger', WHERE WHAT IT READS IS OF BULK AT MOST 1048576: true; the input reads as it did. -/
def hmacLongerUptoRow : OpenClaim := { program := "ytgdogjnjbinoiaa", sum := "9979667b016494e6ccd52d1fcab68d948c0be2747b6c695b18d28caf5fbd4f36", func := "casket/casketlaw14.HmacLonger", spec := "hmacLonger", unfollowed := true, recurses := true, apart := false, narrowed := true }
def HmacLongerUptoSaid : Prop := hmacLongerUptoRow.holds Try.pinned (OpenSpec.upto hmacLongerSpec)

/-- 'casketlaw18.KeysDerives', WHERE WHAT IT READS IS OF BULK AT MOST 1048576: true; the input reads as it did. -/
def keysDerivesUptoRow : OpenClaim := { program := "ytgdogjnjbinoiaa", sum := "9979667b016494e6ccd52d1fcab68d948c0be2747b6c695b18d28caf5fbd4f36", func := "casket/casketlaw18.KeysDerives", spec := "keysDerives", unfollowed := true, recurses := true, apart := false, narrowed := true }
def KeysDerivesUptoSaid : Prop := keysDerivesUptoRow.holds Try.pinned (OpenSpec.upto keysDerivesSpec)

/-- 'casketlaw18.KeysApart', WHERE WHAT IT READS IS OF BULK AT MOST 1048576: true; the input reads as it did. -/
def keysApartUptoRow : OpenClaim := { program := "ytgdogjnjbinoiaa", sum := "9979667b016494e6ccd52d1fcab68d948c0be2747b6c695b18d28caf5fbd4f36", func := "casket/casketlaw18.KeysApart", spec := "keysApart", unfollowed := true, recurses := true, apart := false, narrowed := true }
def KeysApartUptoSaid : Prop := keysApartUptoRow.holds Try.pinned (OpenSpec.upto keysApartSpec)

/-- 'casketlaw18.KeysNonces', WHERE WHAT IT READS IS OF BULK AT MOST 1048576: true; the input reads as it did. -/
def keysNoncesUptoRow : OpenClaim := { program := "ytgdogjnjbinoiaa", sum := "9979667b016494e6ccd52d1fcab68d948c0be2747b6c695b18d28caf5fbd4f36", func := "casket/casketlaw18.KeysNonces", spec := "keysNonces", unfollowed := true, recurses := true, apart := false, narrowed := true }
def KeysNoncesUptoSaid : Prop := keysNoncesUptoRow.holds Try.pinned (OpenSpec.upto keysNoncesSpec)

/-- 'casketlaw18.KeysTree', WHERE WHAT IT READS IS OF BULK AT MOST 1048576: true; the input reads as it did. -/
def keysTreeUptoRow : OpenClaim := { program := "ytgdogjnjbinoiaa", sum := "9979667b016494e6ccd52d1fcab68d948c0be2747b6c695b18d28caf5fbd4f36", func := "casket/casketlaw18.KeysTree", spec := "keysTree", unfollowed := true, recurses := true, apart := false, narrowed := true }
def KeysTreeUptoSaid : Prop := keysTreeUptoRow.holds Try.pinned (OpenSpec.upto keysTreeSpec)

end Rows
end Go.Proofs.Ytgdogjnjbinoiaa
