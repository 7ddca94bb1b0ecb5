/-
  DERIVED. GIVEN WITH THE SEED: THE CARDS: each row of YtfkeaglbfembnaaDoorRows.lean that lists a variable, with what it lists TIED to the program's text (the seventh form; the later family's looks); each row that meets fmt, with fmt's text TOLD by the authors' own Lean function (tested against real Go, not proved from fmt's source: count such statements apart). THE CARD IS WHAT COUNTS. Prove the row's statement (the work); the ties are given (YtfkeaglbfembnaaDoorTie.lean); close each card by the builder's one call (the guide's Derived/Test/ToyasCard.lean, 'card_holds'). Laid BY PROGRAM, IN A SANDBOX (cutbox-door.mjs). By AI agents, Wed Nov 11 2026. No macro, syntax, notation, axiom, sorry.
-/
import Derived.Test.YtfkeaglbfembnaaDoorRows
import GoSem.ClaimSeven
namespace Go.Proofs.YtfkeaglbfembnaaDoor
namespace Rows

/-- THE TIED CARD OF 'skirmishlaw01.ShaSums'. -/
def shaSumsCard : Claim7 := { stood := { row := shaSumsRow, standIns := [], harness := (true, "ab578c725626d509a7e47943301c653704a1cd183f437e3db2954ebd4bce25a1"), looks := false }, kinds := [], alts := [], laidByText := true, laidKinds := [.data, .data], laidTests := true, laidLooks := .later }
def ShaSumsCardSaid : Prop := Claim7.holds Tryd.pinned (.plain (OpenSpec.ofChange shaSumsSpec)) shaSumsCard

/-- THE TIED CARD OF 'skirmishlaw01.ShaWrites'. -/
def shaWritesCard : Claim7 := { stood := { row := shaWritesRow, standIns := [], harness := (true, "ab578c725626d509a7e47943301c653704a1cd183f437e3db2954ebd4bce25a1"), looks := false }, kinds := [], alts := [], laidByText := true, laidKinds := [.data, .data], laidTests := true, laidLooks := .later }
def ShaWritesCardSaid : Prop := Claim7.holds Tryd.pinned (.plain (OpenSpec.ofChange shaWritesSpec)) shaWritesCard

/-- THE TIED CARD OF 'skirmishlaw01.ShaRoots'. -/
def shaRootsCard : Claim7 := { stood := { row := shaRootsRow, standIns := [], harness := (true, "ab578c725626d509a7e47943301c653704a1cd183f437e3db2954ebd4bce25a1"), looks := false }, kinds := [], alts := [], laidByText := true, laidKinds := [.data, .data], laidTests := true, laidLooks := .later }
def ShaRootsCardSaid : Prop := Claim7.holds Tryd.pinned (.plain (OpenSpec.ofChange shaRootsSpec)) shaRootsCard

/-- THE TIED CARD OF 'skirmishlaw01.ShaEqual'. -/
def shaEqualCard : Claim7 := { stood := { row := shaEqualRow, standIns := [], harness := (true, "ab578c725626d509a7e47943301c653704a1cd183f437e3db2954ebd4bce25a1"), looks := false }, kinds := [], alts := [], laidByText := true, laidKinds := [.data, .data], laidTests := true, laidLooks := .later }
def ShaEqualCardSaid : Prop := Claim7.holds Tryd.pinned (.plain (OpenSpec.ofChange shaEqualSpec)) shaEqualCard

/-- THE TIED CARD OF 'skirmishlaw01.ShaNil'. -/
def shaNilCard : Claim7 := { stood := { row := shaNilRow, standIns := [], harness := (true, "ab578c725626d509a7e47943301c653704a1cd183f437e3db2954ebd4bce25a1"), looks := false }, kinds := [], alts := [], laidByText := true, laidKinds := [.data, .data], laidTests := true, laidLooks := .later }
def ShaNilCardSaid : Prop := Claim7.holds Tryd.pinned (.plain (OpenSpec.ofChange shaNilSpec)) shaNilCard

/-- THE TIED CARD OF 'skirmishlaw01.ShaTags'. -/
def shaTagsCard : Claim7 := { stood := { row := shaTagsRow, standIns := [], harness := (true, "ab578c725626d509a7e47943301c653704a1cd183f437e3db2954ebd4bce25a1"), looks := false }, kinds := [], alts := [], laidByText := true, laidKinds := [.data, .data], laidTests := true, laidLooks := .later }
def ShaTagsCardSaid : Prop := Claim7.holds Tryd.pinned (.plain (OpenSpec.ofChange shaTagsSpec)) shaTagsCard

/-- THE TIED CARD OF 'skirmishlaw15.MerkleChecks'. -/
def merkleChecksCard : Claim7 := { stood := { row := merkleChecksRow, standIns := [], harness := (true, "ab578c725626d509a7e47943301c653704a1cd183f437e3db2954ebd4bce25a1"), looks := false }, kinds := [], alts := [], laidByText := true, laidKinds := [.data, .data], laidTests := true, laidLooks := .later }
def MerkleChecksCardSaid : Prop := Claim7.holds Tryd.pinned (.plain (OpenSpec.ofChange merkleChecksSpec)) merkleChecksCard

/-- THE TIED CARD OF 'skirmishlaw15.MerkleRoots'. -/
def merkleRootsCard : Claim7 := { stood := { row := merkleRootsRow, standIns := [], harness := (true, "ab578c725626d509a7e47943301c653704a1cd183f437e3db2954ebd4bce25a1"), looks := false }, kinds := [], alts := [], laidByText := true, laidKinds := [.data, .data], laidTests := true, laidLooks := .later }
def MerkleRootsCardSaid : Prop := Claim7.holds Tryd.pinned (.plain (OpenSpec.ofChange merkleRootsSpec)) merkleRootsCard

/-- THE TIED CARD OF 'skirmishlaw15.MerkleProves'. -/
def merkleProvesCard : Claim7 := { stood := { row := merkleProvesRow, standIns := [], harness := (true, "ab578c725626d509a7e47943301c653704a1cd183f437e3db2954ebd4bce25a1"), looks := false }, kinds := [], alts := [], laidByText := true, laidKinds := [.data, .data], laidTests := true, laidLooks := .later }
def MerkleProvesCardSaid : Prop := Claim7.holds Tryd.pinned (.plain (OpenSpec.ofChange merkleProvesSpec)) merkleProvesCard

/-- THE TIED CARD OF 'skirmishlaw15.MerkleTurns'. -/
def merkleTurnsCard : Claim7 := { stood := { row := merkleTurnsRow, standIns := [], harness := (true, "ab578c725626d509a7e47943301c653704a1cd183f437e3db2954ebd4bce25a1"), looks := false }, kinds := [], alts := [], laidByText := true, laidKinds := [.data, .data], laidTests := true, laidLooks := .later }
def MerkleTurnsCardSaid : Prop := Claim7.holds Tryd.pinned (.plain (OpenSpec.ofChange merkleTurnsSpec)) merkleTurnsCard

/-- THE TIED CARD OF 'skirmishlaw15.MerkleClash'. -/
def merkleClashCard : Claim7 := { stood := { row := merkleClashRow, standIns := [], harness := (true, "ab578c725626d509a7e47943301c653704a1cd183f437e3db2954ebd4bce25a1"), looks := false }, kinds := [], alts := [], laidByText := true, laidKinds := [.data, .data], laidTests := true, laidLooks := .later }
def MerkleClashCardSaid : Prop := Claim7.holds Tryd.pinned (.plain (OpenSpec.ofChange merkleClashSpec)) merkleClashCard

/-- THE SECOND FORM's CARD OF 'skirmishlaw01.ShaSums'. -/
def shaSumsUptoCard : Claim7 := { stood := { row := shaSumsUptoRow, standIns := [], harness := (true, "ab578c725626d509a7e47943301c653704a1cd183f437e3db2954ebd4bce25a1"), looks := false }, kinds := [], alts := [], laidByText := true, laidKinds := [.data, .data], laidTests := true, laidLooks := .later }
def ShaSumsUptoCardSaid : Prop := Claim7.holds Tryd.pinned (.plain (OpenSpec.upto shaSumsSpec)) shaSumsUptoCard

/-- THE SECOND FORM's CARD OF 'skirmishlaw01.ShaWrites'. -/
def shaWritesUptoCard : Claim7 := { stood := { row := shaWritesUptoRow, standIns := [], harness := (true, "ab578c725626d509a7e47943301c653704a1cd183f437e3db2954ebd4bce25a1"), looks := false }, kinds := [], alts := [], laidByText := true, laidKinds := [.data, .data], laidTests := true, laidLooks := .later }
def ShaWritesUptoCardSaid : Prop := Claim7.holds Tryd.pinned (.plain (OpenSpec.upto shaWritesSpec)) shaWritesUptoCard

/-- THE SECOND FORM's CARD OF 'skirmishlaw01.ShaRoots'. -/
def shaRootsUptoCard : Claim7 := { stood := { row := shaRootsUptoRow, standIns := [], harness := (true, "ab578c725626d509a7e47943301c653704a1cd183f437e3db2954ebd4bce25a1"), looks := false }, kinds := [], alts := [], laidByText := true, laidKinds := [.data, .data], laidTests := true, laidLooks := .later }
def ShaRootsUptoCardSaid : Prop := Claim7.holds Tryd.pinned (.plain (OpenSpec.upto shaRootsSpec)) shaRootsUptoCard

/-- THE SECOND FORM's CARD OF 'skirmishlaw01.ShaEqual'. -/
def shaEqualUptoCard : Claim7 := { stood := { row := shaEqualUptoRow, standIns := [], harness := (true, "ab578c725626d509a7e47943301c653704a1cd183f437e3db2954ebd4bce25a1"), looks := false }, kinds := [], alts := [], laidByText := true, laidKinds := [.data, .data], laidTests := true, laidLooks := .later }
def ShaEqualUptoCardSaid : Prop := Claim7.holds Tryd.pinned (.plain (OpenSpec.upto shaEqualSpec)) shaEqualUptoCard

/-- THE SECOND FORM's CARD OF 'skirmishlaw01.ShaNil'. -/
def shaNilUptoCard : Claim7 := { stood := { row := shaNilUptoRow, standIns := [], harness := (true, "ab578c725626d509a7e47943301c653704a1cd183f437e3db2954ebd4bce25a1"), looks := false }, kinds := [], alts := [], laidByText := true, laidKinds := [.data, .data], laidTests := true, laidLooks := .later }
def ShaNilUptoCardSaid : Prop := Claim7.holds Tryd.pinned (.plain (OpenSpec.upto shaNilSpec)) shaNilUptoCard

/-- THE SECOND FORM's CARD OF 'skirmishlaw01.ShaTags'. -/
def shaTagsUptoCard : Claim7 := { stood := { row := shaTagsUptoRow, standIns := [], harness := (true, "ab578c725626d509a7e47943301c653704a1cd183f437e3db2954ebd4bce25a1"), looks := false }, kinds := [], alts := [], laidByText := true, laidKinds := [.data, .data], laidTests := true, laidLooks := .later }
def ShaTagsUptoCardSaid : Prop := Claim7.holds Tryd.pinned (.plain (OpenSpec.upto shaTagsSpec)) shaTagsUptoCard

/-- THE SECOND FORM's CARD OF 'skirmishlaw15.MerkleChecks'. -/
def merkleChecksUptoCard : Claim7 := { stood := { row := merkleChecksUptoRow, standIns := [], harness := (true, "ab578c725626d509a7e47943301c653704a1cd183f437e3db2954ebd4bce25a1"), looks := false }, kinds := [], alts := [], laidByText := true, laidKinds := [.data, .data], laidTests := true, laidLooks := .later }
def MerkleChecksUptoCardSaid : Prop := Claim7.holds Tryd.pinned (.plain (OpenSpec.upto merkleChecksSpec)) merkleChecksUptoCard

/-- THE SECOND FORM's CARD OF 'skirmishlaw15.MerkleRoots'. -/
def merkleRootsUptoCard : Claim7 := { stood := { row := merkleRootsUptoRow, standIns := [], harness := (true, "ab578c725626d509a7e47943301c653704a1cd183f437e3db2954ebd4bce25a1"), looks := false }, kinds := [], alts := [], laidByText := true, laidKinds := [.data, .data], laidTests := true, laidLooks := .later }
def MerkleRootsUptoCardSaid : Prop := Claim7.holds Tryd.pinned (.plain (OpenSpec.upto merkleRootsSpec)) merkleRootsUptoCard

/-- THE SECOND FORM's CARD OF 'skirmishlaw15.MerkleProves'. -/
def merkleProvesUptoCard : Claim7 := { stood := { row := merkleProvesUptoRow, standIns := [], harness := (true, "ab578c725626d509a7e47943301c653704a1cd183f437e3db2954ebd4bce25a1"), looks := false }, kinds := [], alts := [], laidByText := true, laidKinds := [.data, .data], laidTests := true, laidLooks := .later }
def MerkleProvesUptoCardSaid : Prop := Claim7.holds Tryd.pinned (.plain (OpenSpec.upto merkleProvesSpec)) merkleProvesUptoCard

/-- THE SECOND FORM's CARD OF 'skirmishlaw15.MerkleTurns'. -/
def merkleTurnsUptoCard : Claim7 := { stood := { row := merkleTurnsUptoRow, standIns := [], harness := (true, "ab578c725626d509a7e47943301c653704a1cd183f437e3db2954ebd4bce25a1"), looks := false }, kinds := [], alts := [], laidByText := true, laidKinds := [.data, .data], laidTests := true, laidLooks := .later }
def MerkleTurnsUptoCardSaid : Prop := Claim7.holds Tryd.pinned (.plain (OpenSpec.upto merkleTurnsSpec)) merkleTurnsUptoCard

/-- THE SECOND FORM's CARD OF 'skirmishlaw15.MerkleClash'. -/
def merkleClashUptoCard : Claim7 := { stood := { row := merkleClashUptoRow, standIns := [], harness := (true, "ab578c725626d509a7e47943301c653704a1cd183f437e3db2954ebd4bce25a1"), looks := false }, kinds := [], alts := [], laidByText := true, laidKinds := [.data, .data], laidTests := true, laidLooks := .later }
def MerkleClashUptoCardSaid : Prop := Claim7.holds Tryd.pinned (.plain (OpenSpec.upto merkleClashSpec)) merkleClashUptoCard
end Rows
end Go.Proofs.YtfkeaglbfembnaaDoor
