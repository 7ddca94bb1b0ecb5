/-
  NARROWER THAN 'FOR EVERY INPUT', by the rows' own cells (each row's printed sentence says how): ShaSums: laid · ShaWrites: laid · ShaRoots: laid · ShaEqual: laid · ShaNil: laid · ShaTags: laid · MerkleChecks: laid · MerkleRoots: laid · MerkleProves: laid · MerkleTurns: laid · MerkleClash: laid.
  DERIVED. THE GIVEN ROWS OF THIS SEAT. 11 by the template 'for every input the law returns true; each argument reads behind the call as it read before'; 0 by the template 'total and deterministic' (their statements: YtfkeaglbfembnaaDoorTotals.lean).
  GIVEN WITH THE SEED: the statements are not yours to turn. If you find one false, say at which input.
  Laid BY PROGRAM, IN A SANDBOX (cutbox-rows.mjs): the forced cells as the released guide's own fill.sh prints them over the translation a373788dcceac4fb… (all of the seat's roots in one cut). By AI agents, Wed Nov 11 2026. No macro, syntax, notation, axiom, sorry.
-/
import Derived.Test.YtfkeaglbfembnaaDoorChecked
import GoSem.Claim
import GoSem.ClaimJoined
import GoSem.ClaimMapViews
import Derived.JoinedTies
import Derived.KernelRfl
namespace Go.Proofs.YtfkeaglbfembnaaDoor
/- THE CELL 'sum', in the pinned program and in every row, IS THE sha256 OF THE DUMP (.gsa) THAT YtfkeaglbfembnaaDoorProg.lean LOADS. Nothing in Lean hashes anything: it is a label: what it is worth is what the hold of that sum in a sandbox is worth. -/
noncomputable def Tryd.pinned : Pinned := { name := "ytfkeaglbfembnaadoor", sum := "a373788dcceac4fbdba822e6a44763d4f1cb7406297e49839e3f352b14888094", checked := Tryd.checked }
namespace Rows
def none {H : Type} : Left H := { results := [], args := [] }

/- WHAT THE LISTED PACKAGE-LEVEL VARIABLES READ AS WHEN THE CALL BEGINS. Each datum BY PROGRAM (the guide's laid-datum.mjs) off the statement by which the dump's own 'gosem.cut.vars' lays the variable. In a bare row this is a premise. The card (YtfkeaglbfembnaaDoorCards.lean) ties it to the program's text. -/
def laid_skirmish_sha_first {H : Type} : DataW H := .agg [.lit (.int .u32 1779033703), .lit (.int .u32 3144134277), .lit (.int .u32 1013904242), .lit (.int .u32 2773480762), .lit (.int .u32 1359893119), .lit (.int .u32 2600822924), .lit (.int .u32 528734635), .lit (.int .u32 1541459225)]
def laid_skirmish_sha_round {H : Type} : DataW H := .agg [.lit (.int .u32 1116352408), .lit (.int .u32 1899447441), .lit (.int .u32 3049323471), .lit (.int .u32 3921009573), .lit (.int .u32 961987163), .lit (.int .u32 1508970993), .lit (.int .u32 2453635748), .lit (.int .u32 2870763221), .lit (.int .u32 3624381080), .lit (.int .u32 310598401), .lit (.int .u32 607225278), .lit (.int .u32 1426881987), .lit (.int .u32 1925078388), .lit (.int .u32 2162078206), .lit (.int .u32 2614888103), .lit (.int .u32 3248222580), .lit (.int .u32 3835390401), .lit (.int .u32 4022224774), .lit (.int .u32 264347078), .lit (.int .u32 604807628), .lit (.int .u32 770255983), .lit (.int .u32 1249150122), .lit (.int .u32 1555081692), .lit (.int .u32 1996064986), .lit (.int .u32 2554220882), .lit (.int .u32 2821834349), .lit (.int .u32 2952996808), .lit (.int .u32 3210313671), .lit (.int .u32 3336571891), .lit (.int .u32 3584528711), .lit (.int .u32 113926993), .lit (.int .u32 338241895), .lit (.int .u32 666307205), .lit (.int .u32 773529912), .lit (.int .u32 1294757372), .lit (.int .u32 1396182291), .lit (.int .u32 1695183700), .lit (.int .u32 1986661051), .lit (.int .u32 2177026350), .lit (.int .u32 2456956037), .lit (.int .u32 2730485921), .lit (.int .u32 2820302411), .lit (.int .u32 3259730800), .lit (.int .u32 3345764771), .lit (.int .u32 3516065817), .lit (.int .u32 3600352804), .lit (.int .u32 4094571909), .lit (.int .u32 275423344), .lit (.int .u32 430227734), .lit (.int .u32 506948616), .lit (.int .u32 659060556), .lit (.int .u32 883997877), .lit (.int .u32 958139571), .lit (.int .u32 1322822218), .lit (.int .u32 1537002063), .lit (.int .u32 1747873779), .lit (.int .u32 1955562222), .lit (.int .u32 2024104815), .lit (.int .u32 2227730452), .lit (.int .u32 2361852424), .lit (.int .u32 2428436474), .lit (.int .u32 2756734187), .lit (.int .u32 3204031479), .lit (.int .u32 3329325298)]

/-- 'skirmishlaw01.ShaSums': WHATEVER THE INPUT: true; the input reads as it did. -/
def shaSumsSpec : ChangeSpec := { name := "shaSums", fn := fun _ => fun
  | [d] => { results := [.lit (.bool true)], args := [d] }
  | _ => none }
def shaSumsRow : OpenClaim := { program := "ytfkeaglbfembnaadoor", sum := "a373788dcceac4fbdba822e6a44763d4f1cb7406297e49839e3f352b14888094", func := "skirmish/skirmishlaw01.ShaSums", spec := "shaSums", named := ["skirmish/sha.first", "skirmish/sha.round"], apart := false, laid := [("skirmish/sha.first", laid_skirmish_sha_first), ("skirmish/sha.round", laid_skirmish_sha_round)] }
def ShaSumsSaid : Prop := shaSumsRow.holds Tryd.pinned (OpenSpec.ofChange shaSumsSpec)

/-- ITS FALSE NEIGHBOUR: 'it returns false'. Refute it at one input. -/
def shaSumsWrong : ChangeSpec := { name := "shaSums", fn := fun _ => fun
  | [d] => { results := [.lit (.bool false)], args := [d] }
  | _ => none }
def ShaSumsWrongFalsely : Prop := shaSumsRow.holds Tryd.pinned (OpenSpec.ofChange shaSumsWrong)

/-- 'skirmishlaw01.ShaWrites': WHATEVER THE INPUT: true; the input reads as it did. -/
def shaWritesSpec : ChangeSpec := { name := "shaWrites", fn := fun _ => fun
  | [d] => { results := [.lit (.bool true)], args := [d] }
  | _ => none }
def shaWritesRow : OpenClaim := { program := "ytfkeaglbfembnaadoor", sum := "a373788dcceac4fbdba822e6a44763d4f1cb7406297e49839e3f352b14888094", func := "skirmish/skirmishlaw01.ShaWrites", spec := "shaWrites", named := ["skirmish/sha.first", "skirmish/sha.round"], apart := false, laid := [("skirmish/sha.first", laid_skirmish_sha_first), ("skirmish/sha.round", laid_skirmish_sha_round)] }
def ShaWritesSaid : Prop := shaWritesRow.holds Tryd.pinned (OpenSpec.ofChange shaWritesSpec)

/-- ITS FALSE NEIGHBOUR: 'it returns false'. Refute it at one input. -/
def shaWritesWrong : ChangeSpec := { name := "shaWrites", fn := fun _ => fun
  | [d] => { results := [.lit (.bool false)], args := [d] }
  | _ => none }
def ShaWritesWrongFalsely : Prop := shaWritesRow.holds Tryd.pinned (OpenSpec.ofChange shaWritesWrong)

/-- 'skirmishlaw01.ShaRoots': WHATEVER THE INPUT: true; the input reads as it did. -/
def shaRootsSpec : ChangeSpec := { name := "shaRoots", fn := fun _ => fun
  | [d] => { results := [.lit (.bool true)], args := [d] }
  | _ => none }
def shaRootsRow : OpenClaim := { program := "ytfkeaglbfembnaadoor", sum := "a373788dcceac4fbdba822e6a44763d4f1cb7406297e49839e3f352b14888094", func := "skirmish/skirmishlaw01.ShaRoots", spec := "shaRoots", named := ["skirmish/sha.first", "skirmish/sha.round"], apart := false, laid := [("skirmish/sha.first", laid_skirmish_sha_first), ("skirmish/sha.round", laid_skirmish_sha_round)] }
def ShaRootsSaid : Prop := shaRootsRow.holds Tryd.pinned (OpenSpec.ofChange shaRootsSpec)

/-- ITS FALSE NEIGHBOUR: 'it returns false'. Refute it at one input. -/
def shaRootsWrong : ChangeSpec := { name := "shaRoots", fn := fun _ => fun
  | [d] => { results := [.lit (.bool false)], args := [d] }
  | _ => none }
def ShaRootsWrongFalsely : Prop := shaRootsRow.holds Tryd.pinned (OpenSpec.ofChange shaRootsWrong)

/-- 'skirmishlaw01.ShaEqual': WHATEVER THE INPUT: true; the input reads as it did. -/
def shaEqualSpec : ChangeSpec := { name := "shaEqual", fn := fun _ => fun
  | [d1, d2, d3] => { results := [.lit (.bool true)], args := [d1, d2, d3] }
  | _ => none }
def shaEqualRow : OpenClaim := { program := "ytfkeaglbfembnaadoor", sum := "a373788dcceac4fbdba822e6a44763d4f1cb7406297e49839e3f352b14888094", func := "skirmish/skirmishlaw01.ShaEqual", spec := "shaEqual", named := ["skirmish/sha.first", "skirmish/sha.round"], apart := false, laid := [("skirmish/sha.first", laid_skirmish_sha_first), ("skirmish/sha.round", laid_skirmish_sha_round)] }
def ShaEqualSaid : Prop := shaEqualRow.holds Tryd.pinned (OpenSpec.ofChange shaEqualSpec)

/-- ITS FALSE NEIGHBOUR: 'it returns false'. Refute it at one input. -/
def shaEqualWrong : ChangeSpec := { name := "shaEqual", fn := fun _ => fun
  | [d1, d2, d3] => { results := [.lit (.bool false)], args := [d1, d2, d3] }
  | _ => none }
def ShaEqualWrongFalsely : Prop := shaEqualRow.holds Tryd.pinned (OpenSpec.ofChange shaEqualWrong)

/-- 'skirmishlaw01.ShaNil': WHATEVER THE INPUT: true; the input reads as it did. -/
def shaNilSpec : ChangeSpec := { name := "shaNil", fn := fun _ => fun
  | [d] => { results := [.lit (.bool true)], args := [d] }
  | _ => none }
def shaNilRow : OpenClaim := { program := "ytfkeaglbfembnaadoor", sum := "a373788dcceac4fbdba822e6a44763d4f1cb7406297e49839e3f352b14888094", func := "skirmish/skirmishlaw01.ShaNil", spec := "shaNil", named := ["skirmish/sha.first", "skirmish/sha.round"], apart := false, laid := [("skirmish/sha.first", laid_skirmish_sha_first), ("skirmish/sha.round", laid_skirmish_sha_round)] }
def ShaNilSaid : Prop := shaNilRow.holds Tryd.pinned (OpenSpec.ofChange shaNilSpec)

/-- ITS FALSE NEIGHBOUR: 'it returns false'. Refute it at one input. -/
def shaNilWrong : ChangeSpec := { name := "shaNil", fn := fun _ => fun
  | [d] => { results := [.lit (.bool false)], args := [d] }
  | _ => none }
def ShaNilWrongFalsely : Prop := shaNilRow.holds Tryd.pinned (OpenSpec.ofChange shaNilWrong)

/-- 'skirmishlaw01.ShaTags': WHATEVER THE INPUT: true; the input reads as it did. -/
def shaTagsSpec : ChangeSpec := { name := "shaTags", fn := fun _ => fun
  | [d1, d2] => { results := [.lit (.bool true)], args := [d1, d2] }
  | _ => none }
def shaTagsRow : OpenClaim := { program := "ytfkeaglbfembnaadoor", sum := "a373788dcceac4fbdba822e6a44763d4f1cb7406297e49839e3f352b14888094", func := "skirmish/skirmishlaw01.ShaTags", spec := "shaTags", named := ["skirmish/sha.first", "skirmish/sha.round"], apart := false, laid := [("skirmish/sha.first", laid_skirmish_sha_first), ("skirmish/sha.round", laid_skirmish_sha_round)] }
def ShaTagsSaid : Prop := shaTagsRow.holds Tryd.pinned (OpenSpec.ofChange shaTagsSpec)

/-- ITS FALSE NEIGHBOUR: 'it returns false'. Refute it at one input. -/
def shaTagsWrong : ChangeSpec := { name := "shaTags", fn := fun _ => fun
  | [d1, d2] => { results := [.lit (.bool false)], args := [d1, d2] }
  | _ => none }
def ShaTagsWrongFalsely : Prop := shaTagsRow.holds Tryd.pinned (OpenSpec.ofChange shaTagsWrong)

/-- 'skirmishlaw15.MerkleChecks': WHATEVER THE INPUT: true; the input reads as it did. -/
def merkleChecksSpec : ChangeSpec := { name := "merkleChecks", fn := fun _ => fun
  | [d1, d2, d3] => { results := [.lit (.bool true)], args := [d1, d2, d3] }
  | _ => none }
def merkleChecksRow : OpenClaim := { program := "ytfkeaglbfembnaadoor", sum := "a373788dcceac4fbdba822e6a44763d4f1cb7406297e49839e3f352b14888094", func := "skirmish/skirmishlaw15.MerkleChecks", spec := "merkleChecks", recurses := true, named := ["skirmish/sha.first", "skirmish/sha.round"], apart := false, laid := [("skirmish/sha.first", laid_skirmish_sha_first), ("skirmish/sha.round", laid_skirmish_sha_round)] }
def MerkleChecksSaid : Prop := merkleChecksRow.holds Tryd.pinned (OpenSpec.ofChange merkleChecksSpec)

/-- ITS FALSE NEIGHBOUR: 'it returns false'. Refute it at one input. -/
def merkleChecksWrong : ChangeSpec := { name := "merkleChecks", fn := fun _ => fun
  | [d1, d2, d3] => { results := [.lit (.bool false)], args := [d1, d2, d3] }
  | _ => none }
def MerkleChecksWrongFalsely : Prop := merkleChecksRow.holds Tryd.pinned (OpenSpec.ofChange merkleChecksWrong)

/-- 'skirmishlaw15.MerkleRoots': WHATEVER THE INPUT: true; the input reads as it did. -/
def merkleRootsSpec : ChangeSpec := { name := "merkleRoots", fn := fun _ => fun
  | [d1, d2] => { results := [.lit (.bool true)], args := [d1, d2] }
  | _ => none }
def merkleRootsRow : OpenClaim := { program := "ytfkeaglbfembnaadoor", sum := "a373788dcceac4fbdba822e6a44763d4f1cb7406297e49839e3f352b14888094", func := "skirmish/skirmishlaw15.MerkleRoots", spec := "merkleRoots", recurses := true, named := ["skirmish/sha.first", "skirmish/sha.round"], apart := false, laid := [("skirmish/sha.first", laid_skirmish_sha_first), ("skirmish/sha.round", laid_skirmish_sha_round)] }
def MerkleRootsSaid : Prop := merkleRootsRow.holds Tryd.pinned (OpenSpec.ofChange merkleRootsSpec)

/-- ITS FALSE NEIGHBOUR: 'it returns false'. Refute it at one input. -/
def merkleRootsWrong : ChangeSpec := { name := "merkleRoots", fn := fun _ => fun
  | [d1, d2] => { results := [.lit (.bool false)], args := [d1, d2] }
  | _ => none }
def MerkleRootsWrongFalsely : Prop := merkleRootsRow.holds Tryd.pinned (OpenSpec.ofChange merkleRootsWrong)

/-- 'skirmishlaw15.MerkleProves': WHATEVER THE INPUT: true; the input reads as it did. -/
def merkleProvesSpec : ChangeSpec := { name := "merkleProves", fn := fun _ => fun
  | [d1, d2, d3] => { results := [.lit (.bool true)], args := [d1, d2, d3] }
  | _ => none }
def merkleProvesRow : OpenClaim := { program := "ytfkeaglbfembnaadoor", sum := "a373788dcceac4fbdba822e6a44763d4f1cb7406297e49839e3f352b14888094", func := "skirmish/skirmishlaw15.MerkleProves", spec := "merkleProves", recurses := true, named := ["skirmish/sha.first", "skirmish/sha.round"], apart := false, laid := [("skirmish/sha.first", laid_skirmish_sha_first), ("skirmish/sha.round", laid_skirmish_sha_round)] }
def MerkleProvesSaid : Prop := merkleProvesRow.holds Tryd.pinned (OpenSpec.ofChange merkleProvesSpec)

/-- ITS FALSE NEIGHBOUR: 'it returns false'. Refute it at one input. -/
def merkleProvesWrong : ChangeSpec := { name := "merkleProves", fn := fun _ => fun
  | [d1, d2, d3] => { results := [.lit (.bool false)], args := [d1, d2, d3] }
  | _ => none }
def MerkleProvesWrongFalsely : Prop := merkleProvesRow.holds Tryd.pinned (OpenSpec.ofChange merkleProvesWrong)

/-- 'skirmishlaw15.MerkleTurns': WHATEVER THE INPUT: true; the input reads as it did. -/
def merkleTurnsSpec : ChangeSpec := { name := "merkleTurns", fn := fun _ => fun
  | [d1, d2, d3] => { results := [.lit (.bool true)], args := [d1, d2, d3] }
  | _ => none }
def merkleTurnsRow : OpenClaim := { program := "ytfkeaglbfembnaadoor", sum := "a373788dcceac4fbdba822e6a44763d4f1cb7406297e49839e3f352b14888094", func := "skirmish/skirmishlaw15.MerkleTurns", spec := "merkleTurns", recurses := true, named := ["skirmish/sha.first", "skirmish/sha.round"], apart := false, laid := [("skirmish/sha.first", laid_skirmish_sha_first), ("skirmish/sha.round", laid_skirmish_sha_round)] }
def MerkleTurnsSaid : Prop := merkleTurnsRow.holds Tryd.pinned (OpenSpec.ofChange merkleTurnsSpec)

/-- ITS FALSE NEIGHBOUR: 'it returns false'. Refute it at one input. -/
def merkleTurnsWrong : ChangeSpec := { name := "merkleTurns", fn := fun _ => fun
  | [d1, d2, d3] => { results := [.lit (.bool false)], args := [d1, d2, d3] }
  | _ => none }
def MerkleTurnsWrongFalsely : Prop := merkleTurnsRow.holds Tryd.pinned (OpenSpec.ofChange merkleTurnsWrong)

/-- 'skirmishlaw15.MerkleClash': WHATEVER THE INPUT: true; the input reads as it did. -/
def merkleClashSpec : ChangeSpec := { name := "merkleClash", fn := fun _ => fun
  | [d1, d2] => { results := [.lit (.bool true)], args := [d1, d2] }
  | _ => none }
def merkleClashRow : OpenClaim := { program := "ytfkeaglbfembnaadoor", sum := "a373788dcceac4fbdba822e6a44763d4f1cb7406297e49839e3f352b14888094", func := "skirmish/skirmishlaw15.MerkleClash", spec := "merkleClash", recurses := true, named := ["skirmish/sha.first", "skirmish/sha.round"], apart := false, laid := [("skirmish/sha.first", laid_skirmish_sha_first), ("skirmish/sha.round", laid_skirmish_sha_round)] }
def MerkleClashSaid : Prop := merkleClashRow.holds Tryd.pinned (OpenSpec.ofChange merkleClashSpec)

/-- ITS FALSE NEIGHBOUR: 'it returns false'. Refute it at one input. -/
def merkleClashWrong : ChangeSpec := { name := "merkleClash", fn := fun _ => fun
  | [d1, d2] => { results := [.lit (.bool false)], args := [d1, d2] }
  | _ => none }
def MerkleClashWrongFalsely : Prop := merkleClashRow.holds Tryd.pinned (OpenSpec.ofChange merkleClashWrong)

/- THE SECOND FORM. 'bulk': how many values and letters a reading holds, each counted each time it is reached (what is shared counts as often as it is met; a slice's spare places count too). A statement '..UptoSaid' is the law's where the arguments, and the package variables that the reading takes, are together of bulk at most 1048576: NARROWER than '..Said'. Prove '..Said' where nothing that the law and all that it calls make is longer than what came in: it says more and counts as full. Else prove '..UptoSaid'. A law counts once. -/
mutual
def uptoBulk {H : Type} : DataW H → Nat
  | .lit (.string bytes) => bytes.length + 1
  | .lit _ => 1
  | .nil => 1
  | .ptr d => uptoBulk d + 1
  | .slice elems spare => uptoBulkAll elems + uptoBulkAll spare + 1
  | .agg parts => uptoBulkAll parts + 1
  | .iface _ d => uptoBulk d + 1
  | .map entries => uptoBulkEntries entries + 1
  | .held _ => 1
def uptoBulkAll {H : Type} : List (DataW H) → Nat
  | [] => 0
  | d :: r => uptoBulk d + uptoBulkAll r
def uptoBulkEntries {H : Type} : List (Lit × DataW H) → Nat
  | [] => 0
  | x :: r => uptoBulkEntry x + uptoBulkEntries r
def uptoBulkEntry {H : Type} : Lit × DataW H → Nat
  | (.string bytes, d) => bytes.length + uptoBulk d + 1
  | (_, d) => uptoBulk d + 1
 end
def uptoSmall : (H : Type) → List (DataW H) → Bool := fun _ ds => decide (uptoBulkAll ds ≤ 1048576)
def OpenSpec.upto (s : _root_.Go.ChangeSpec) : _root_.Go.OpenSpec := { _root_.Go.OpenSpec.ofChange s with cond := some uptoSmall }

/-- 'skirmishlaw01.ShaSums', WHERE WHAT IT READS IS OF BULK AT MOST 1048576: true; the input reads as it did. -/
def shaSumsUptoRow : OpenClaim := { program := "ytfkeaglbfembnaadoor", sum := "a373788dcceac4fbdba822e6a44763d4f1cb7406297e49839e3f352b14888094", func := "skirmish/skirmishlaw01.ShaSums", spec := "shaSums", named := ["skirmish/sha.first", "skirmish/sha.round"], apart := false, laid := [("skirmish/sha.first", laid_skirmish_sha_first), ("skirmish/sha.round", laid_skirmish_sha_round)], narrowed := true }
def ShaSumsUptoSaid : Prop := shaSumsUptoRow.holds Tryd.pinned (OpenSpec.upto shaSumsSpec)

/-- 'skirmishlaw01.ShaWrites', WHERE WHAT IT READS IS OF BULK AT MOST 1048576: true; the input reads as it did. -/
def shaWritesUptoRow : OpenClaim := { program := "ytfkeaglbfembnaadoor", sum := "a373788dcceac4fbdba822e6a44763d4f1cb7406297e49839e3f352b14888094", func := "skirmish/skirmishlaw01.ShaWrites", spec := "shaWrites", named := ["skirmish/sha.first", "skirmish/sha.round"], apart := false, laid := [("skirmish/sha.first", laid_skirmish_sha_first), ("skirmish/sha.round", laid_skirmish_sha_round)], narrowed := true }
def ShaWritesUptoSaid : Prop := shaWritesUptoRow.holds Tryd.pinned (OpenSpec.upto shaWritesSpec)

/-- 'skirmishlaw01.ShaRoots', WHERE WHAT IT READS IS OF BULK AT MOST 1048576: true; the input reads as it did. -/
def shaRootsUptoRow : OpenClaim := { program := "ytfkeaglbfembnaadoor", sum := "a373788dcceac4fbdba822e6a44763d4f1cb7406297e49839e3f352b14888094", func := "skirmish/skirmishlaw01.ShaRoots", spec := "shaRoots", named := ["skirmish/sha.first", "skirmish/sha.round"], apart := false, laid := [("skirmish/sha.first", laid_skirmish_sha_first), ("skirmish/sha.round", laid_skirmish_sha_round)], narrowed := true }
def ShaRootsUptoSaid : Prop := shaRootsUptoRow.holds Tryd.pinned (OpenSpec.upto shaRootsSpec)

/-- 'skirmishlaw01.ShaEqual', WHERE WHAT IT READS IS OF BULK AT MOST 1048576: true; the input reads as it did. -/
def shaEqualUptoRow : OpenClaim := { program := "ytfkeaglbfembnaadoor", sum := "a373788dcceac4fbdba822e6a44763d4f1cb7406297e49839e3f352b14888094", func := "skirmish/skirmishlaw01.ShaEqual", spec := "shaEqual", named := ["skirmish/sha.first", "skirmish/sha.round"], apart := false, laid := [("skirmish/sha.first", laid_skirmish_sha_first), ("skirmish/sha.round", laid_skirmish_sha_round)], narrowed := true }
def ShaEqualUptoSaid : Prop := shaEqualUptoRow.holds Tryd.pinned (OpenSpec.upto shaEqualSpec)

/-- 'skirmishlaw01.ShaNil', WHERE WHAT IT READS IS OF BULK AT MOST 1048576: true; the input reads as it did. -/
def shaNilUptoRow : OpenClaim := { program := "ytfkeaglbfembnaadoor", sum := "a373788dcceac4fbdba822e6a44763d4f1cb7406297e49839e3f352b14888094", func := "skirmish/skirmishlaw01.ShaNil", spec := "shaNil", named := ["skirmish/sha.first", "skirmish/sha.round"], apart := false, laid := [("skirmish/sha.first", laid_skirmish_sha_first), ("skirmish/sha.round", laid_skirmish_sha_round)], narrowed := true }
def ShaNilUptoSaid : Prop := shaNilUptoRow.holds Tryd.pinned (OpenSpec.upto shaNilSpec)

/-- 'skirmishlaw01.ShaTags', WHERE WHAT IT READS IS OF BULK AT MOST 1048576: true; the input reads as it did. -/
def shaTagsUptoRow : OpenClaim := { program := "ytfkeaglbfembnaadoor", sum := "a373788dcceac4fbdba822e6a44763d4f1cb7406297e49839e3f352b14888094", func := "skirmish/skirmishlaw01.ShaTags", spec := "shaTags", named := ["skirmish/sha.first", "skirmish/sha.round"], apart := false, laid := [("skirmish/sha.first", laid_skirmish_sha_first), ("skirmish/sha.round", laid_skirmish_sha_round)], narrowed := true }
def ShaTagsUptoSaid : Prop := shaTagsUptoRow.holds Tryd.pinned (OpenSpec.upto shaTagsSpec)

/-- 'skirmishlaw15.MerkleChecks', WHERE WHAT IT READS IS OF BULK AT MOST 1048576: true; the input reads as it did. -/
def merkleChecksUptoRow : OpenClaim := { program := "ytfkeaglbfembnaadoor", sum := "a373788dcceac4fbdba822e6a44763d4f1cb7406297e49839e3f352b14888094", func := "skirmish/skirmishlaw15.MerkleChecks", spec := "merkleChecks", recurses := true, named := ["skirmish/sha.first", "skirmish/sha.round"], apart := false, laid := [("skirmish/sha.first", laid_skirmish_sha_first), ("skirmish/sha.round", laid_skirmish_sha_round)], narrowed := true }
def MerkleChecksUptoSaid : Prop := merkleChecksUptoRow.holds Tryd.pinned (OpenSpec.upto merkleChecksSpec)

/-- 'skirmishlaw15.MerkleRoots', WHERE WHAT IT READS IS OF BULK AT MOST 1048576: true; the input reads as it did. -/
def merkleRootsUptoRow : OpenClaim := { program := "ytfkeaglbfembnaadoor", sum := "a373788dcceac4fbdba822e6a44763d4f1cb7406297e49839e3f352b14888094", func := "skirmish/skirmishlaw15.MerkleRoots", spec := "merkleRoots", recurses := true, named := ["skirmish/sha.first", "skirmish/sha.round"], apart := false, laid := [("skirmish/sha.first", laid_skirmish_sha_first), ("skirmish/sha.round", laid_skirmish_sha_round)], narrowed := true }
def MerkleRootsUptoSaid : Prop := merkleRootsUptoRow.holds Tryd.pinned (OpenSpec.upto merkleRootsSpec)

/-- 'skirmishlaw15.MerkleProves', WHERE WHAT IT READS IS OF BULK AT MOST 1048576: true; the input reads as it did. -/
def merkleProvesUptoRow : OpenClaim := { program := "ytfkeaglbfembnaadoor", sum := "a373788dcceac4fbdba822e6a44763d4f1cb7406297e49839e3f352b14888094", func := "skirmish/skirmishlaw15.MerkleProves", spec := "merkleProves", recurses := true, named := ["skirmish/sha.first", "skirmish/sha.round"], apart := false, laid := [("skirmish/sha.first", laid_skirmish_sha_first), ("skirmish/sha.round", laid_skirmish_sha_round)], narrowed := true }
def MerkleProvesUptoSaid : Prop := merkleProvesUptoRow.holds Tryd.pinned (OpenSpec.upto merkleProvesSpec)

/-- 'skirmishlaw15.MerkleTurns', WHERE WHAT IT READS IS OF BULK AT MOST 1048576: true; the input reads as it did. -/
def merkleTurnsUptoRow : OpenClaim := { program := "ytfkeaglbfembnaadoor", sum := "a373788dcceac4fbdba822e6a44763d4f1cb7406297e49839e3f352b14888094", func := "skirmish/skirmishlaw15.MerkleTurns", spec := "merkleTurns", recurses := true, named := ["skirmish/sha.first", "skirmish/sha.round"], apart := false, laid := [("skirmish/sha.first", laid_skirmish_sha_first), ("skirmish/sha.round", laid_skirmish_sha_round)], narrowed := true }
def MerkleTurnsUptoSaid : Prop := merkleTurnsUptoRow.holds Tryd.pinned (OpenSpec.upto merkleTurnsSpec)

/-- 'skirmishlaw15.MerkleClash', WHERE WHAT IT READS IS OF BULK AT MOST 1048576: true; the input reads as it did. -/
def merkleClashUptoRow : OpenClaim := { program := "ytfkeaglbfembnaadoor", sum := "a373788dcceac4fbdba822e6a44763d4f1cb7406297e49839e3f352b14888094", func := "skirmish/skirmishlaw15.MerkleClash", spec := "merkleClash", recurses := true, named := ["skirmish/sha.first", "skirmish/sha.round"], apart := false, laid := [("skirmish/sha.first", laid_skirmish_sha_first), ("skirmish/sha.round", laid_skirmish_sha_round)], narrowed := true }
def MerkleClashUptoSaid : Prop := merkleClashUptoRow.holds Tryd.pinned (OpenSpec.upto merkleClashSpec)

end Rows
end Go.Proofs.YtfkeaglbfembnaaDoor
