/-
  DERIVED. GIVEN WITH THE SEED: THE CARDS: each row of YtbmginkdlcpnpaaDoorRows.lean that lists a variable, with what it lists TIED to the program's text (the seventh form; the later family's looks); each row that meets fmt, with fmt's text TOLD by the authors' own Lean function (tested against real Go, not proved from fmt's source: count such statements apart). THE CARD IS WHAT COUNTS. Prove the row's statement (the work); the ties are given (YtbmginkdlcpnpaaDoorTie.lean); close each card by the builder's one call (the guide's Derived/Test/ToyasCard.lean, 'card_holds'). Laid BY PROGRAM, IN A SANDBOX (cutbox-door.mjs). By AI agents, Wed Nov 11 2026. No macro, syntax, notation, axiom, sorry.
-/
import Derived.Test.YtbmginkdlcpnpaaDoorRows
import GoSem.ClaimSeven
namespace Go.Proofs.YtbmginkdlcpnpaaDoor
namespace Rows

/-- THE TIED CARD OF 'slabvaultlaw17.PathNames'. -/
def pathNamesCard : Claim7 := { stood := { row := pathNamesRow, standIns := [], harness := (true, "dc2923b07cebce6d467f8183e0f2de8188588daf7f840ebf5b08d4af10b803fb"), looks := true }, kinds := [], alts := [], laidByText := true, laidKinds := [.data, .handle, .pinned], laidTests := true, laidLooks := .later }
def PathNamesCardSaid : Prop := Claim7.holds Tryd.pinned (.plain (OpenSpec.ofChange pathNamesSpec)) pathNamesCard

/-- THE TIED CARD OF 'slabvaultlaw17.PathParses'. -/
def pathParsesCard : Claim7 := { stood := { row := pathParsesRow, standIns := [], harness := (true, "dc2923b07cebce6d467f8183e0f2de8188588daf7f840ebf5b08d4af10b803fb"), looks := true }, kinds := [], alts := [], laidByText := true, laidKinds := [.data, .handle, .pinned], laidTests := true, laidLooks := .later }
def PathParsesCardSaid : Prop := Claim7.holds Tryd.pinned (.plain (OpenSpec.ofChange pathParsesSpec)) pathParsesCard

/-- THE TIED CARD OF 'slabvaultlaw17.PathJoins'. -/
def pathJoinsCard : Claim7 := { stood := { row := pathJoinsRow, standIns := [], harness := (true, "dc2923b07cebce6d467f8183e0f2de8188588daf7f840ebf5b08d4af10b803fb"), looks := true }, kinds := [], alts := [], laidByText := true, laidKinds := [.data, .handle, .pinned], laidTests := true, laidLooks := .later }
def PathJoinsCardSaid : Prop := Claim7.holds Tryd.pinned (.plain (OpenSpec.ofChange pathJoinsSpec)) pathJoinsCard

/-- THE TIED CARD OF 'slabvaultlaw17.PathBack'. -/
def pathBackCard : Claim7 := { stood := { row := pathBackRow, standIns := [], harness := (true, "dc2923b07cebce6d467f8183e0f2de8188588daf7f840ebf5b08d4af10b803fb"), looks := true }, kinds := [], alts := [], laidByText := true, laidKinds := [.data, .handle, .pinned], laidTests := true, laidLooks := .later }
def PathBackCardSaid : Prop := Claim7.holds Tryd.pinned (.plain (OpenSpec.ofChange pathBackSpec)) pathBackCard

/-- THE TIED CARD OF 'slabvaultlaw17.PathTogether'. -/
def pathTogetherCard : Claim7 := { stood := { row := pathTogetherRow, standIns := [], harness := (true, "dc2923b07cebce6d467f8183e0f2de8188588daf7f840ebf5b08d4af10b803fb"), looks := true }, kinds := [], alts := [], laidByText := true, laidKinds := [.data, .handle, .pinned], laidTests := true, laidLooks := .later }
def PathTogetherCardSaid : Prop := Claim7.holds Tryd.pinned (.plain (OpenSpec.ofChange pathTogetherSpec)) pathTogetherCard

/-- THE TIED CARD OF 'slabvaultlaw17.PathSplits'. -/
def pathSplitsCard : Claim7 := { stood := { row := pathSplitsRow, standIns := [], harness := (true, "dc2923b07cebce6d467f8183e0f2de8188588daf7f840ebf5b08d4af10b803fb"), looks := true }, kinds := [], alts := [], laidByText := true, laidKinds := [.data, .handle, .pinned], laidTests := true, laidLooks := .later }
def PathSplitsCardSaid : Prop := Claim7.holds Tryd.pinned (.plain (OpenSpec.ofChange pathSplitsSpec)) pathSplitsCard

/-- THE TIED CARD OF 'slabvaultlaw17.PathLast'. -/
def pathLastCard : Claim7 := { stood := { row := pathLastRow, standIns := [], harness := (true, "dc2923b07cebce6d467f8183e0f2de8188588daf7f840ebf5b08d4af10b803fb"), looks := true }, kinds := [], alts := [], laidByText := true, laidKinds := [.data, .handle, .pinned], laidTests := true, laidLooks := .later }
def PathLastCardSaid : Prop := Claim7.holds Tryd.pinned (.plain (OpenSpec.ofChange pathLastSpec)) pathLastCard

/-- THE SECOND FORM's CARD OF 'slabvaultlaw17.PathNames'. -/
def pathNamesUptoCard : Claim7 := { stood := { row := pathNamesUptoRow, standIns := [], harness := (true, "dc2923b07cebce6d467f8183e0f2de8188588daf7f840ebf5b08d4af10b803fb"), looks := true }, kinds := [], alts := [], laidByText := true, laidKinds := [.data, .handle, .pinned], laidTests := true, laidLooks := .later }
def PathNamesUptoCardSaid : Prop := Claim7.holds Tryd.pinned (.plain (OpenSpec.upto pathNamesSpec)) pathNamesUptoCard

/-- THE SECOND FORM's CARD OF 'slabvaultlaw17.PathParses'. -/
def pathParsesUptoCard : Claim7 := { stood := { row := pathParsesUptoRow, standIns := [], harness := (true, "dc2923b07cebce6d467f8183e0f2de8188588daf7f840ebf5b08d4af10b803fb"), looks := true }, kinds := [], alts := [], laidByText := true, laidKinds := [.data, .handle, .pinned], laidTests := true, laidLooks := .later }
def PathParsesUptoCardSaid : Prop := Claim7.holds Tryd.pinned (.plain (OpenSpec.upto pathParsesSpec)) pathParsesUptoCard

/-- THE SECOND FORM's CARD OF 'slabvaultlaw17.PathJoins'. -/
def pathJoinsUptoCard : Claim7 := { stood := { row := pathJoinsUptoRow, standIns := [], harness := (true, "dc2923b07cebce6d467f8183e0f2de8188588daf7f840ebf5b08d4af10b803fb"), looks := true }, kinds := [], alts := [], laidByText := true, laidKinds := [.data, .handle, .pinned], laidTests := true, laidLooks := .later }
def PathJoinsUptoCardSaid : Prop := Claim7.holds Tryd.pinned (.plain (OpenSpec.upto pathJoinsSpec)) pathJoinsUptoCard

/-- THE SECOND FORM's CARD OF 'slabvaultlaw17.PathBack'. -/
def pathBackUptoCard : Claim7 := { stood := { row := pathBackUptoRow, standIns := [], harness := (true, "dc2923b07cebce6d467f8183e0f2de8188588daf7f840ebf5b08d4af10b803fb"), looks := true }, kinds := [], alts := [], laidByText := true, laidKinds := [.data, .handle, .pinned], laidTests := true, laidLooks := .later }
def PathBackUptoCardSaid : Prop := Claim7.holds Tryd.pinned (.plain (OpenSpec.upto pathBackSpec)) pathBackUptoCard

/-- THE SECOND FORM's CARD OF 'slabvaultlaw17.PathTogether'. -/
def pathTogetherUptoCard : Claim7 := { stood := { row := pathTogetherUptoRow, standIns := [], harness := (true, "dc2923b07cebce6d467f8183e0f2de8188588daf7f840ebf5b08d4af10b803fb"), looks := true }, kinds := [], alts := [], laidByText := true, laidKinds := [.data, .handle, .pinned], laidTests := true, laidLooks := .later }
def PathTogetherUptoCardSaid : Prop := Claim7.holds Tryd.pinned (.plain (OpenSpec.upto pathTogetherSpec)) pathTogetherUptoCard

/-- THE SECOND FORM's CARD OF 'slabvaultlaw17.PathSplits'. -/
def pathSplitsUptoCard : Claim7 := { stood := { row := pathSplitsUptoRow, standIns := [], harness := (true, "dc2923b07cebce6d467f8183e0f2de8188588daf7f840ebf5b08d4af10b803fb"), looks := true }, kinds := [], alts := [], laidByText := true, laidKinds := [.data, .handle, .pinned], laidTests := true, laidLooks := .later }
def PathSplitsUptoCardSaid : Prop := Claim7.holds Tryd.pinned (.plain (OpenSpec.upto pathSplitsSpec)) pathSplitsUptoCard

/-- THE SECOND FORM's CARD OF 'slabvaultlaw17.PathLast'. -/
def pathLastUptoCard : Claim7 := { stood := { row := pathLastUptoRow, standIns := [], harness := (true, "dc2923b07cebce6d467f8183e0f2de8188588daf7f840ebf5b08d4af10b803fb"), looks := true }, kinds := [], alts := [], laidByText := true, laidKinds := [.data, .handle, .pinned], laidTests := true, laidLooks := .later }
def PathLastUptoCardSaid : Prop := Claim7.holds Tryd.pinned (.plain (OpenSpec.upto pathLastSpec)) pathLastUptoCard
end Rows
end Go.Proofs.YtbmginkdlcpnpaaDoor
