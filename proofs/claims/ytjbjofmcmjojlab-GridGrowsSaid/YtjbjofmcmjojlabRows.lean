/-
  No cell of these rows narrows 'for every input' (looked for: loops, veiled, ifaces, maps, wideKeys, modest, calm, conditions, laid).
  DERIVED. THE GIVEN ROWS OF THIS SEAT. 8 by the template 'for every input the law returns true; each argument reads behind the call as it read before'; 0 by the template 'total and deterministic' (their statements: YtjbjofmcmjojlabTotals.lean).
  GIVEN WITH THE SEED: the statements are not yours to turn. If you find one false, say at which input.
  Laid BY PROGRAM, IN A SANDBOX (cutbox-rows.mjs): the forced cells as the released guide's own fill.sh prints them over the translation 20a128169c558956… (all of the seat's roots in one cut). By AI agents, Wed Nov 11 2026. No macro, syntax, notation, axiom, sorry.
-/
import Derived.Test.YtjbjofmcmjojlabChecked
import GoSem.Claim
import GoSem.ClaimJoined
import GoSem.ClaimMapViews
import Derived.JoinedTies
import Derived.KernelRfl
namespace Go.Proofs.Ytjbjofmcmjojlab
/- THE CELL 'sum', in the pinned program and in every row, IS THE sha256 OF THE DUMP (.gsa) THAT YtjbjofmcmjojlabProg.lean LOADS. Nothing in Lean hashes anything: it is a label: what it is worth is what the hold of that sum in a sandbox is worth. -/
noncomputable def Try.pinned : Pinned := { name := "ytjbjofmcmjojlab", sum := "20a128169c5589565514a3b173fab1d6e38a21851d380184579d9337f8270e0b", checked := Try.checked }
namespace Rows
def none {H : Type} : Left H := { results := [], args := [] }

/-- 'slabvaultlaw13.GridClips': WHATEVER THE INPUT: true; the input reads as it did. -/
def gridClipsSpec : ChangeSpec := { name := "gridClips", fn := fun _ => fun
  | [d1, d2, d3] => { results := [.lit (.bool true)], args := [d1, d2, d3] }
  | _ => none }
def gridClipsRow : OpenClaim := { program := "ytjbjofmcmjojlab", sum := "20a128169c5589565514a3b173fab1d6e38a21851d380184579d9337f8270e0b", func := "slabvault/slabvaultlaw13.GridClips", spec := "gridClips", inPlace := ["internal/bytealg.MakeNoZero"], unfollowed := true, recurses := true, apart := false }
def GridClipsSaid : Prop := gridClipsRow.holds Try.pinned (OpenSpec.ofChange gridClipsSpec)

/-- ITS FALSE NEIGHBOUR: 'it returns false'. Refute it at one input. -/
def gridClipsWrong : ChangeSpec := { name := "gridClips", fn := fun _ => fun
  | [d1, d2, d3] => { results := [.lit (.bool false)], args := [d1, d2, d3] }
  | _ => none }
def GridClipsWrongFalsely : Prop := gridClipsRow.holds Try.pinned (OpenSpec.ofChange gridClipsWrong)

/-- 'slabvaultlaw13.GridCuts': WHATEVER THE INPUT: true; the input reads as it did. -/
def gridCutsSpec : ChangeSpec := { name := "gridCuts", fn := fun _ => fun
  | [d] => { results := [.lit (.bool true)], args := [d] }
  | _ => none }
def gridCutsRow : OpenClaim := { program := "ytjbjofmcmjojlab", sum := "20a128169c5589565514a3b173fab1d6e38a21851d380184579d9337f8270e0b", func := "slabvault/slabvaultlaw13.GridCuts", spec := "gridCuts", inPlace := ["internal/bytealg.MakeNoZero"], unfollowed := true, recurses := true, apart := false }
def GridCutsSaid : Prop := gridCutsRow.holds Try.pinned (OpenSpec.ofChange gridCutsSpec)

/-- ITS FALSE NEIGHBOUR: 'it returns false'. Refute it at one input. -/
def gridCutsWrong : ChangeSpec := { name := "gridCuts", fn := fun _ => fun
  | [d] => { results := [.lit (.bool false)], args := [d] }
  | _ => none }
def GridCutsWrongFalsely : Prop := gridCutsRow.holds Try.pinned (OpenSpec.ofChange gridCutsWrong)

/-- 'slabvaultlaw13.GridResizes': WHATEVER THE INPUT: true; the input reads as it did. -/
def gridResizesSpec : ChangeSpec := { name := "gridResizes", fn := fun _ => fun
  | [d] => { results := [.lit (.bool true)], args := [d] }
  | _ => none }
def gridResizesRow : OpenClaim := { program := "ytjbjofmcmjojlab", sum := "20a128169c5589565514a3b173fab1d6e38a21851d380184579d9337f8270e0b", func := "slabvault/slabvaultlaw13.GridResizes", spec := "gridResizes", inPlace := ["internal/bytealg.MakeNoZero"], unfollowed := true, recurses := true, apart := false }
def GridResizesSaid : Prop := gridResizesRow.holds Try.pinned (OpenSpec.ofChange gridResizesSpec)

/-- ITS FALSE NEIGHBOUR: 'it returns false'. Refute it at one input. -/
def gridResizesWrong : ChangeSpec := { name := "gridResizes", fn := fun _ => fun
  | [d] => { results := [.lit (.bool false)], args := [d] }
  | _ => none }
def GridResizesWrongFalsely : Prop := gridResizesRow.holds Try.pinned (OpenSpec.ofChange gridResizesWrong)

/-- 'slabvaultlaw13.GridGrows': WHATEVER THE INPUT: true; the input reads as it did. -/
def gridGrowsSpec : ChangeSpec := { name := "gridGrows", fn := fun _ => fun
  | [d1, d2] => { results := [.lit (.bool true)], args := [d1, d2] }
  | _ => none }
def gridGrowsRow : OpenClaim := { program := "ytjbjofmcmjojlab", sum := "20a128169c5589565514a3b173fab1d6e38a21851d380184579d9337f8270e0b", func := "slabvault/slabvaultlaw13.GridGrows", spec := "gridGrows", inPlace := ["internal/bytealg.MakeNoZero"], unfollowed := true, recurses := true, apart := false }
def GridGrowsSaid : Prop := gridGrowsRow.holds Try.pinned (OpenSpec.ofChange gridGrowsSpec)

/-- ITS FALSE NEIGHBOUR: 'it returns false'. Refute it at one input. -/
def gridGrowsWrong : ChangeSpec := { name := "gridGrows", fn := fun _ => fun
  | [d1, d2] => { results := [.lit (.bool false)], args := [d1, d2] }
  | _ => none }
def GridGrowsWrongFalsely : Prop := gridGrowsRow.holds Try.pinned (OpenSpec.ofChange gridGrowsWrong)

/-- 'slabvaultlaw13.GridCounts': WHATEVER THE INPUT: true; the input reads as it did. -/
def gridCountsSpec : ChangeSpec := { name := "gridCounts", fn := fun _ => fun
  | [d1, d2, d3] => { results := [.lit (.bool true)], args := [d1, d2, d3] }
  | _ => none }
def gridCountsRow : OpenClaim := { program := "ytjbjofmcmjojlab", sum := "20a128169c5589565514a3b173fab1d6e38a21851d380184579d9337f8270e0b", func := "slabvault/slabvaultlaw13.GridCounts", spec := "gridCounts", inPlace := ["internal/bytealg.MakeNoZero"], unfollowed := true, recurses := true, apart := false }
def GridCountsSaid : Prop := gridCountsRow.holds Try.pinned (OpenSpec.ofChange gridCountsSpec)

/-- ITS FALSE NEIGHBOUR: 'it returns false'. Refute it at one input. -/
def gridCountsWrong : ChangeSpec := { name := "gridCounts", fn := fun _ => fun
  | [d1, d2, d3] => { results := [.lit (.bool false)], args := [d1, d2, d3] }
  | _ => none }
def GridCountsWrongFalsely : Prop := gridCountsRow.holds Try.pinned (OpenSpec.ofChange gridCountsWrong)

/-- 'slabvaultlaw13.GridCovers': WHATEVER THE INPUT: true; the input reads as it did. -/
def gridCoversSpec : ChangeSpec := { name := "gridCovers", fn := fun _ => fun
  | [d1, d2, d3] => { results := [.lit (.bool true)], args := [d1, d2, d3] }
  | _ => none }
def gridCoversRow : OpenClaim := { program := "ytjbjofmcmjojlab", sum := "20a128169c5589565514a3b173fab1d6e38a21851d380184579d9337f8270e0b", func := "slabvault/slabvaultlaw13.GridCovers", spec := "gridCovers", inPlace := ["internal/bytealg.MakeNoZero"], unfollowed := true, recurses := true, apart := false }
def GridCoversSaid : Prop := gridCoversRow.holds Try.pinned (OpenSpec.ofChange gridCoversSpec)

/-- ITS FALSE NEIGHBOUR: 'it returns false'. Refute it at one input. -/
def gridCoversWrong : ChangeSpec := { name := "gridCovers", fn := fun _ => fun
  | [d1, d2, d3] => { results := [.lit (.bool false)], args := [d1, d2, d3] }
  | _ => none }
def GridCoversWrongFalsely : Prop := gridCoversRow.holds Try.pinned (OpenSpec.ofChange gridCoversWrong)

/-- 'slabvaultlaw13.GridPastes': WHATEVER THE INPUT: true; the input reads as it did. -/
def gridPastesSpec : ChangeSpec := { name := "gridPastes", fn := fun _ => fun
  | [d] => { results := [.lit (.bool true)], args := [d] }
  | _ => none }
def gridPastesRow : OpenClaim := { program := "ytjbjofmcmjojlab", sum := "20a128169c5589565514a3b173fab1d6e38a21851d380184579d9337f8270e0b", func := "slabvault/slabvaultlaw13.GridPastes", spec := "gridPastes", inPlace := ["internal/bytealg.MakeNoZero"], unfollowed := true, recurses := true, apart := false }
def GridPastesSaid : Prop := gridPastesRow.holds Try.pinned (OpenSpec.ofChange gridPastesSpec)

/-- ITS FALSE NEIGHBOUR: 'it returns false'. Refute it at one input. -/
def gridPastesWrong : ChangeSpec := { name := "gridPastes", fn := fun _ => fun
  | [d] => { results := [.lit (.bool false)], args := [d] }
  | _ => none }
def GridPastesWrongFalsely : Prop := gridPastesRow.holds Try.pinned (OpenSpec.ofChange gridPastesWrong)

/-- 'slabvaultlaw13.GridBack': WHATEVER THE INPUT: true; the input reads as it did. -/
def gridBackSpec : ChangeSpec := { name := "gridBack", fn := fun _ => fun
  | [d1, d2] => { results := [.lit (.bool true)], args := [d1, d2] }
  | _ => none }
def gridBackRow : OpenClaim := { program := "ytjbjofmcmjojlab", sum := "20a128169c5589565514a3b173fab1d6e38a21851d380184579d9337f8270e0b", func := "slabvault/slabvaultlaw13.GridBack", spec := "gridBack", inPlace := ["internal/bytealg.MakeNoZero"], unfollowed := true, recurses := true, apart := false }
def GridBackSaid : Prop := gridBackRow.holds Try.pinned (OpenSpec.ofChange gridBackSpec)

/-- ITS FALSE NEIGHBOUR: 'it returns false'. Refute it at one input. -/
def gridBackWrong : ChangeSpec := { name := "gridBack", fn := fun _ => fun
  | [d1, d2] => { results := [.lit (.bool false)], args := [d1, d2] }
  | _ => none }
def GridBackWrongFalsely : Prop := gridBackRow.holds Try.pinned (OpenSpec.ofChange gridBackWrong)

/- THE SECOND FORM. 'bulk': how many values and letters a reading holds, each counted each time it is reached (what is shared counts as often as it is met; a slice's spare places count too). A statement '..UptoSaid' is the law's where the arguments, and the package variables that the reading takes, are together of bulk at most 1048576: NARROWER than '..Said'. Prove '..Said' where nothing that the law and all that it calls make is longer than what came in: it says more and counts as full. Else prove '..UptoSaid'. A law counts once. -/
mutual
def uptoBulk {H : Type} : DataW H → Nat
  | .lit (.string bytes) => bytes.length + 1
  | .lit _ => 1
  | .nil => 1
  | .ptr d => uptoBulk d + 1
  | .slice elems spare => uptoBulkAll elems + uptoBulkAll spare + 1
  | .agg parts => uptoBulkAll parts + 1
  | .iface _ d => uptoBulk d + 1
  | .map entries => uptoBulkEntries entries + 1
  | .held _ => 1
def uptoBulkAll {H : Type} : List (DataW H) → Nat
  | [] => 0
  | d :: r => uptoBulk d + uptoBulkAll r
def uptoBulkEntries {H : Type} : List (Lit × DataW H) → Nat
  | [] => 0
  | x :: r => uptoBulkEntry x + uptoBulkEntries r
def uptoBulkEntry {H : Type} : Lit × DataW H → Nat
  | (.string bytes, d) => bytes.length + uptoBulk d + 1
  | (_, d) => uptoBulk d + 1
 end
def uptoSmall : (H : Type) → List (DataW H) → Bool := fun _ ds => decide (uptoBulkAll ds ≤ 1048576)
def OpenSpec.upto (s : _root_.Go.ChangeSpec) : _root_.Go.OpenSpec := { _root_.Go.OpenSpec.ofChange s with cond := some uptoSmall }

/-- 'slabvaultlaw13.GridClips', WHERE WHAT IT READS IS OF BULK AT MOST 1048576: true; the input reads as it did. -/
def gridClipsUptoRow : OpenClaim := { program := "ytjbjofmcmjojlab", sum := "20a128169c5589565514a3b173fab1d6e38a21851d380184579d9337f8270e0b", func := "slabvault/slabvaultlaw13.GridClips", spec := "gridClips", inPlace := ["internal/bytealg.MakeNoZero"], unfollowed := true, recurses := true, apart := false, narrowed := true }
def GridClipsUptoSaid : Prop := gridClipsUptoRow.holds Try.pinned (OpenSpec.upto gridClipsSpec)

/-- 'slabvaultlaw13.GridCuts', WHERE WHAT IT READS IS OF BULK AT MOST 1048576: true; the input reads as it did. -/
def gridCutsUptoRow : OpenClaim := { program := "ytjbjofmcmjojlab", sum := "20a128169c5589565514a3b173fab1d6e38a21851d380184579d9337f8270e0b", func := "slabvault/slabvaultlaw13.GridCuts", spec := "gridCuts", inPlace := ["internal/bytealg.MakeNoZero"], unfollowed := true, recurses := true, apart := false, narrowed := true }
def GridCutsUptoSaid : Prop := gridCutsUptoRow.holds Try.pinned (OpenSpec.upto gridCutsSpec)

/-- 'slabvaultlaw13.GridResizes', WHERE WHAT IT READS IS OF BULK AT MOST 1048576: true; the input reads as it did. -/
def gridResizesUptoRow : OpenClaim := { program := "ytjbjofmcmjojlab", sum := "20a128169c5589565514a3b173fab1d6e38a21851d380184579d9337f8270e0b", func := "slabvault/slabvaultlaw13.GridResizes", spec := "gridResizes", inPlace := ["internal/bytealg.MakeNoZero"], unfollowed := true, recurses := true, apart := false, narrowed := true }
def GridResizesUptoSaid : Prop := gridResizesUptoRow.holds Try.pinned (OpenSpec.upto gridResizesSpec)

/-- 'slabvaultlaw13.GridGrows', WHERE WHAT IT READS IS OF BULK AT MOST 1048576: true; the input reads as it did. -/
def gridGrowsUptoRow : OpenClaim := { program := "ytjbjofmcmjojlab", sum := "20a128169c5589565514a3b173fab1d6e38a21851d380184579d9337f8270e0b", func := "slabvault/slabvaultlaw13.GridGrows", spec := "gridGrows", inPlace := ["internal/bytealg.MakeNoZero"], unfollowed := true, recurses := true, apart := false, narrowed := true }
def GridGrowsUptoSaid : Prop := gridGrowsUptoRow.holds Try.pinned (OpenSpec.upto gridGrowsSpec)

/-- 'slabvaultlaw13.GridCounts', WHERE WHAT IT READS IS OF BULK AT MOST 1048576: true; the input reads as it did. -/
def gridCountsUptoRow : OpenClaim := { program := "ytjbjofmcmjojlab", sum := "20a128169c5589565514a3b173fab1d6e38a21851d380184579d9337f8270e0b", func := "slabvault/slabvaultlaw13.GridCounts", spec := "gridCounts", inPlace := ["internal/bytealg.MakeNoZero"], unfollowed := true, recurses := true, apart := false, narrowed := true }
def GridCountsUptoSaid : Prop := gridCountsUptoRow.holds Try.pinned (OpenSpec.upto gridCountsSpec)

/-- 'slabvaultlaw13.GridCovers', WHERE WHAT IT READS IS OF BULK AT MOST 1048576: true; the input reads as it did. -/
def gridCoversUptoRow : OpenClaim := { program := "ytjbjofmcmjojlab", sum := "20a128169c5589565514a3b173fab1d6e38a21851d380184579d9337f8270e0b", func := "slabvault/slabvaultlaw13.GridCovers", spec := "gridCovers", inPlace := ["internal/bytealg.MakeNoZero"], unfollowed := true, recurses := true, apart := false, narrowed := true }
def GridCoversUptoSaid : Prop := gridCoversUptoRow.holds Try.pinned (OpenSpec.upto gridCoversSpec)

/-- 'slabvaultlaw13.GridPastes', WHERE WHAT IT READS IS OF BULK AT MOST 1048576: true; the input reads as it did. -/
def gridPastesUptoRow : OpenClaim := { program := "ytjbjofmcmjojlab", sum := "20a128169c5589565514a3b173fab1d6e38a21851d380184579d9337f8270e0b", func := "slabvault/slabvaultlaw13.GridPastes", spec := "gridPastes", inPlace := ["internal/bytealg.MakeNoZero"], unfollowed := true, recurses := true, apart := false, narrowed := true }
def GridPastesUptoSaid : Prop := gridPastesUptoRow.holds Try.pinned (OpenSpec.upto gridPastesSpec)

/-- 'slabvaultlaw13.GridBack', WHERE WHAT IT READS IS OF BULK AT MOST 1048576: true; the input reads as it did. -/
def gridBackUptoRow : OpenClaim := { program := "ytjbjofmcmjojlab", sum := "20a128169c5589565514a3b173fab1d6e38a21851d380184579d9337f8270e0b", func := "slabvault/slabvaultlaw13.GridBack", spec := "gridBack", inPlace := ["internal/bytealg.MakeNoZero"], unfollowed := true, recurses := true, apart := false, narrowed := true }
def GridBackUptoSaid : Prop := gridBackUptoRow.holds Try.pinned (OpenSpec.upto gridBackSpec)

end Rows
end Go.Proofs.Ytjbjofmcmjojlab
