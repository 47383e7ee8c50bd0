/-
  DERIVED. GIVEN WITH THE SEED: THE CARDS: each row of YthifdofdoeaemaaGreatDoorRows.lean that lists a variable, with what it lists TIED to the program's text (the seventh form; the later family's looks); each row that meets fmt, with fmt's text TOLD by the authors' own Lean function (tested against real Go, not proved from fmt's source: count such statements apart). THE CARD IS WHAT COUNTS. Prove the row's statement (the work); the ties are given (YthifdofdoeaemaaGreatDoorTie.lean); close each card by the builder's one call (the guide's Derived/Test/ToyasCard.lean, 'card_holds'). Laid BY PROGRAM, IN A SANDBOX (cutbox-door.mjs). By AI agents, Wed Nov 11 2026. No macro, syntax, notation, axiom, sorry.
-/
import Derived.Test.YthifdofdoeaemaaGreatDoorRows
import GoSem.ClaimSeven
namespace Go.Proofs.YthifdofdoeaemaaGreatDoor
namespace Rows

/-- THE TIED CARD OF 'slabvaultlaw18.GraphLoops'. -/
def graphLoopsCard : Claim7 := { stood := { row := graphLoopsRow, standIns := [], harness := (true, "75a98b76411eaacda1bd968cbd589f5ff6a334499a4a0372402f17d8a7bfb9e7"), looks := true }, kinds := [], alts := [], laidByText := true, laidKinds := [.data, .handle, .pinned], laidTests := true, laidLooks := .later }
def GraphLoopsCardSaid : Prop := Claim7.holds Tryz.pinned (.plain (OpenSpec.ofChange graphLoopsSpec)) graphLoopsCard

/-- THE TIED CARD OF 'slabvaultlaw18.GraphSofts'. -/
def graphSoftsCard : Claim7 := { stood := { row := graphSoftsRow, standIns := [], harness := (true, "75a98b76411eaacda1bd968cbd589f5ff6a334499a4a0372402f17d8a7bfb9e7"), looks := true }, kinds := [], alts := [], laidByText := true, laidKinds := [.data, .handle, .pinned], laidTests := true, laidLooks := .later }
def GraphSoftsCardSaid : Prop := Claim7.holds Tryz.pinned (.plain (OpenSpec.ofChange graphSoftsSpec)) graphSoftsCard

/-- THE TIED CARD OF 'slabvaultlaw18.GraphLimits'. -/
def graphLimitsCard : Claim7 := { stood := { row := graphLimitsRow, standIns := [], harness := (true, "75a98b76411eaacda1bd968cbd589f5ff6a334499a4a0372402f17d8a7bfb9e7"), looks := true }, kinds := [], alts := [], laidByText := true, laidKinds := [.data, .handle, .pinned], laidTests := true, laidLooks := .later }
def GraphLimitsCardSaid : Prop := Claim7.holds Tryz.pinned (.plain (OpenSpec.ofChange graphLimitsSpec)) graphLimitsCard

/-- THE TIED CARD OF 'slabvaultlaw18.GraphOnce'. -/
def graphOnceCard : Claim7 := { stood := { row := graphOnceRow, standIns := [], harness := (true, "75a98b76411eaacda1bd968cbd589f5ff6a334499a4a0372402f17d8a7bfb9e7"), looks := true }, kinds := [], alts := [], laidByText := true, laidKinds := [.data, .handle, .pinned], laidTests := true, laidLooks := .later }
def GraphOnceCardSaid : Prop := Claim7.holds Tryz.pinned (.plain (OpenSpec.ofChange graphOnceSpec)) graphOnceCard

/-- THE TIED CARD OF 'slabvaultlaw18.GraphGone'. -/
def graphGoneCard : Claim7 := { stood := { row := graphGoneRow, standIns := [], harness := (true, "75a98b76411eaacda1bd968cbd589f5ff6a334499a4a0372402f17d8a7bfb9e7"), looks := true }, kinds := [], alts := [], laidByText := true, laidKinds := [.data, .handle, .pinned], laidTests := true, laidLooks := .later }
def GraphGoneCardSaid : Prop := Claim7.holds Tryz.pinned (.plain (OpenSpec.ofChange graphGoneSpec)) graphGoneCard

/-- THE TIED CARD OF 'slabvaultlaw18.GraphHeld'. -/
def graphHeldCard : Claim7 := { stood := { row := graphHeldRow, standIns := [], harness := (true, "75a98b76411eaacda1bd968cbd589f5ff6a334499a4a0372402f17d8a7bfb9e7"), looks := true }, kinds := [], alts := [], laidByText := true, laidKinds := [.data, .handle, .pinned], laidTests := true, laidLooks := .later }
def GraphHeldCardSaid : Prop := Claim7.holds Tryz.pinned (.plain (OpenSpec.ofChange graphHeldSpec)) graphHeldCard

/-- THE TIED CARD OF 'slabvaultlaw18.GraphLoads'. -/
def graphLoadsCard : Claim7 := { stood := { row := graphLoadsRow, standIns := [], harness := (true, "75a98b76411eaacda1bd968cbd589f5ff6a334499a4a0372402f17d8a7bfb9e7"), looks := true }, kinds := [], alts := [], laidByText := true, laidKinds := [.data, .handle, .pinned], laidTests := true, laidLooks := .later }
def GraphLoadsCardSaid : Prop := Claim7.holds Tryz.pinned (.plain (OpenSpec.ofChange graphLoadsSpec)) graphLoadsCard

/-- THE TIED CARD OF 'slabvaultlaw18.GraphBack'. -/
def graphBackCard : Claim7 := { stood := { row := graphBackRow, standIns := [], harness := (true, "75a98b76411eaacda1bd968cbd589f5ff6a334499a4a0372402f17d8a7bfb9e7"), looks := true }, kinds := [], alts := [], laidByText := true, laidKinds := [.data, .handle, .pinned], laidTests := true, laidLooks := .later }
def GraphBackCardSaid : Prop := Claim7.holds Tryz.pinned (.plain (OpenSpec.ofChange graphBackSpec)) graphBackCard

/-- THE TIED CARD OF 'slabvaultlaw18.GraphActs'. -/
def graphActsCard : Claim7 := { stood := { row := graphActsRow, standIns := [], harness := (true, "75a98b76411eaacda1bd968cbd589f5ff6a334499a4a0372402f17d8a7bfb9e7"), looks := true }, kinds := [], alts := [], laidByText := true, laidKinds := [.data, .handle, .pinned], laidTests := true, laidLooks := .later }
def GraphActsCardSaid : Prop := Claim7.holds Tryz.pinned (.plain (OpenSpec.ofChange graphActsSpec)) graphActsCard

/-- THE TIED CARD OF 'slabvaultlaw18.GraphNobody'. -/
def graphNobodyCard : Claim7 := { stood := { row := graphNobodyRow, standIns := [], harness := (true, "75a98b76411eaacda1bd968cbd589f5ff6a334499a4a0372402f17d8a7bfb9e7"), looks := true }, kinds := [], alts := [], laidByText := true, laidKinds := [.data, .handle, .pinned], laidTests := true, laidLooks := .later }
def GraphNobodyCardSaid : Prop := Claim7.holds Tryz.pinned (.plain (OpenSpec.ofChange graphNobodySpec)) graphNobodyCard

/-- THE SECOND FORM's CARD OF 'slabvaultlaw18.GraphLoops'. -/
def graphLoopsUptoCard : Claim7 := { stood := { row := graphLoopsUptoRow, standIns := [], harness := (true, "75a98b76411eaacda1bd968cbd589f5ff6a334499a4a0372402f17d8a7bfb9e7"), looks := true }, kinds := [], alts := [], laidByText := true, laidKinds := [.data, .handle, .pinned], laidTests := true, laidLooks := .later }
def GraphLoopsUptoCardSaid : Prop := Claim7.holds Tryz.pinned (.plain (OpenSpec.upto graphLoopsSpec)) graphLoopsUptoCard

/-- THE SECOND FORM's CARD OF 'slabvaultlaw18.GraphSofts'. -/
def graphSoftsUptoCard : Claim7 := { stood := { row := graphSoftsUptoRow, standIns := [], harness := (true, "75a98b76411eaacda1bd968cbd589f5ff6a334499a4a0372402f17d8a7bfb9e7"), looks := true }, kinds := [], alts := [], laidByText := true, laidKinds := [.data, .handle, .pinned], laidTests := true, laidLooks := .later }
def GraphSoftsUptoCardSaid : Prop := Claim7.holds Tryz.pinned (.plain (OpenSpec.upto graphSoftsSpec)) graphSoftsUptoCard

/-- THE SECOND FORM's CARD OF 'slabvaultlaw18.GraphLimits'. -/
def graphLimitsUptoCard : Claim7 := { stood := { row := graphLimitsUptoRow, standIns := [], harness := (true, "75a98b76411eaacda1bd968cbd589f5ff6a334499a4a0372402f17d8a7bfb9e7"), looks := true }, kinds := [], alts := [], laidByText := true, laidKinds := [.data, .handle, .pinned], laidTests := true, laidLooks := .later }
def GraphLimitsUptoCardSaid : Prop := Claim7.holds Tryz.pinned (.plain (OpenSpec.upto graphLimitsSpec)) graphLimitsUptoCard

/-- THE SECOND FORM's CARD OF 'slabvaultlaw18.GraphOnce'. -/
def graphOnceUptoCard : Claim7 := { stood := { row := graphOnceUptoRow, standIns := [], harness := (true, "75a98b76411eaacda1bd968cbd589f5ff6a334499a4a0372402f17d8a7bfb9e7"), looks := true }, kinds := [], alts := [], laidByText := true, laidKinds := [.data, .handle, .pinned], laidTests := true, laidLooks := .later }
def GraphOnceUptoCardSaid : Prop := Claim7.holds Tryz.pinned (.plain (OpenSpec.upto graphOnceSpec)) graphOnceUptoCard

/-- THE SECOND FORM's CARD OF 'slabvaultlaw18.GraphGone'. -/
def graphGoneUptoCard : Claim7 := { stood := { row := graphGoneUptoRow, standIns := [], harness := (true, "75a98b76411eaacda1bd968cbd589f5ff6a334499a4a0372402f17d8a7bfb9e7"), looks := true }, kinds := [], alts := [], laidByText := true, laidKinds := [.data, .handle, .pinned], laidTests := true, laidLooks := .later }
def GraphGoneUptoCardSaid : Prop := Claim7.holds Tryz.pinned (.plain (OpenSpec.upto graphGoneSpec)) graphGoneUptoCard

/-- THE SECOND FORM's CARD OF 'slabvaultlaw18.GraphHeld'. -/
def graphHeldUptoCard : Claim7 := { stood := { row := graphHeldUptoRow, standIns := [], harness := (true, "75a98b76411eaacda1bd968cbd589f5ff6a334499a4a0372402f17d8a7bfb9e7"), looks := true }, kinds := [], alts := [], laidByText := true, laidKinds := [.data, .handle, .pinned], laidTests := true, laidLooks := .later }
def GraphHeldUptoCardSaid : Prop := Claim7.holds Tryz.pinned (.plain (OpenSpec.upto graphHeldSpec)) graphHeldUptoCard

/-- THE SECOND FORM's CARD OF 'slabvaultlaw18.GraphLoads'. -/
def graphLoadsUptoCard : Claim7 := { stood := { row := graphLoadsUptoRow, standIns := [], harness := (true, "75a98b76411eaacda1bd968cbd589f5ff6a334499a4a0372402f17d8a7bfb9e7"), looks := true }, kinds := [], alts := [], laidByText := true, laidKinds := [.data, .handle, .pinned], laidTests := true, laidLooks := .later }
def GraphLoadsUptoCardSaid : Prop := Claim7.holds Tryz.pinned (.plain (OpenSpec.upto graphLoadsSpec)) graphLoadsUptoCard

/-- THE SECOND FORM's CARD OF 'slabvaultlaw18.GraphBack'. -/
def graphBackUptoCard : Claim7 := { stood := { row := graphBackUptoRow, standIns := [], harness := (true, "75a98b76411eaacda1bd968cbd589f5ff6a334499a4a0372402f17d8a7bfb9e7"), looks := true }, kinds := [], alts := [], laidByText := true, laidKinds := [.data, .handle, .pinned], laidTests := true, laidLooks := .later }
def GraphBackUptoCardSaid : Prop := Claim7.holds Tryz.pinned (.plain (OpenSpec.upto graphBackSpec)) graphBackUptoCard

/-- THE SECOND FORM's CARD OF 'slabvaultlaw18.GraphActs'. -/
def graphActsUptoCard : Claim7 := { stood := { row := graphActsUptoRow, standIns := [], harness := (true, "75a98b76411eaacda1bd968cbd589f5ff6a334499a4a0372402f17d8a7bfb9e7"), looks := true }, kinds := [], alts := [], laidByText := true, laidKinds := [.data, .handle, .pinned], laidTests := true, laidLooks := .later }
def GraphActsUptoCardSaid : Prop := Claim7.holds Tryz.pinned (.plain (OpenSpec.upto graphActsSpec)) graphActsUptoCard

/-- THE SECOND FORM's CARD OF 'slabvaultlaw18.GraphNobody'. -/
def graphNobodyUptoCard : Claim7 := { stood := { row := graphNobodyUptoRow, standIns := [], harness := (true, "75a98b76411eaacda1bd968cbd589f5ff6a334499a4a0372402f17d8a7bfb9e7"), looks := true }, kinds := [], alts := [], laidByText := true, laidKinds := [.data, .handle, .pinned], laidTests := true, laidLooks := .later }
def GraphNobodyUptoCardSaid : Prop := Claim7.holds Tryz.pinned (.plain (OpenSpec.upto graphNobodySpec)) graphNobodyUptoCard
end Rows
end Go.Proofs.YthifdofdoeaemaaGreatDoor
