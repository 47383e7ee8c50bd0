/-
  No cell of these rows narrows 'for every input' (looked for: loops, veiled, ifaces, maps, wideKeys, modest, calm, conditions, laid).
  DERIVED. THE GIVEN ROWS OF THIS SEAT. 8 by the template 'for every input the law returns true; each argument reads behind the call as it read before'; 0 by the template 'total and deterministic' (their statements: YtjbjofmcmjojlaaTotals.lean).
  GIVEN WITH THE SEED: the statements are not yours to turn. If you find one false, say at which input.
  Laid BY PROGRAM, IN A SANDBOX (cutbox-rows.mjs): the forced cells as the released guide's own fill.sh prints them over the translation 4c9b369942f9eb77… (all of the seat's roots in one cut). By AI agents, Wed Nov 11 2026. No macro, syntax, notation, axiom, sorry.
-/
import Derived.Test.YtjbjofmcmjojlaaChecked
import GoSem.Claim
import GoSem.ClaimJoined
import GoSem.ClaimMapViews
import Derived.JoinedTies
import Derived.KernelRfl
namespace Go.Proofs.Ytjbjofmcmjojlaa
/- THE CELL 'sum', in the pinned program and in every row, IS THE sha256 OF THE DUMP (.gsa) THAT YtjbjofmcmjojlaaProg.lean LOADS. Nothing in Lean hashes anything: it is a label: what it is worth is what the hold of that sum in a sandbox is worth. -/
noncomputable def Try.pinned : Pinned := { name := "ytjbjofmcmjojlaa", sum := "4c9b369942f9eb7762f300896ff6598ae2e0cb09ad2513e68747a72adaff1b6d", checked := Try.checked }
namespace Rows
def none {H : Type} : Left H := { results := [], args := [] }

/-- 'slabvaultlaw12.SpaceElements': WHATEVER THE INPUT: true; the input reads as it did. -/
def spaceElementsSpec : ChangeSpec := { name := "spaceElements", fn := fun _ => fun
  | [d] => { results := [.lit (.bool true)], args := [d] }
  | _ => none }
def spaceElementsRow : OpenClaim := { program := "ytjbjofmcmjojlaa", sum := "4c9b369942f9eb7762f300896ff6598ae2e0cb09ad2513e68747a72adaff1b6d", func := "slabvault/slabvaultlaw12.SpaceElements", spec := "spaceElements", unfollowed := true, recurses := true, apart := false }
def SpaceElementsSaid : Prop := spaceElementsRow.holds Try.pinned (OpenSpec.ofChange spaceElementsSpec)

/-- ITS FALSE NEIGHBOUR: 'it returns false'. Refute it at one input. -/
def spaceElementsWrong : ChangeSpec := { name := "spaceElements", fn := fun _ => fun
  | [d] => { results := [.lit (.bool false)], args := [d] }
  | _ => none }
def SpaceElementsWrongFalsely : Prop := spaceElementsRow.holds Try.pinned (OpenSpec.ofChange spaceElementsWrong)

/-- 'slabvaultlaw12.SpacePlaces': WHATEVER THE INPUT: true; the input reads as it did. -/
def spacePlacesSpec : ChangeSpec := { name := "spacePlaces", fn := fun _ => fun
  | [d1, d2] => { results := [.lit (.bool true)], args := [d1, d2] }
  | _ => none }
def spacePlacesRow : OpenClaim := { program := "ytjbjofmcmjojlaa", sum := "4c9b369942f9eb7762f300896ff6598ae2e0cb09ad2513e68747a72adaff1b6d", func := "slabvault/slabvaultlaw12.SpacePlaces", spec := "spacePlaces", unfollowed := true, recurses := true, apart := false }
def SpacePlacesSaid : Prop := spacePlacesRow.holds Try.pinned (OpenSpec.ofChange spacePlacesSpec)

/-- ITS FALSE NEIGHBOUR: 'it returns false'. Refute it at one input. -/
def spacePlacesWrong : ChangeSpec := { name := "spacePlaces", fn := fun _ => fun
  | [d1, d2] => { results := [.lit (.bool false)], args := [d1, d2] }
  | _ => none }
def SpacePlacesWrongFalsely : Prop := spacePlacesRow.holds Try.pinned (OpenSpec.ofChange spacePlacesWrong)

/-- 'slabvaultlaw12.SpaceAll': WHATEVER THE INPUT: true; the input reads as it did. -/
def spaceAllSpec : ChangeSpec := { name := "spaceAll", fn := fun _ => fun
  | [d] => { results := [.lit (.bool true)], args := [d] }
  | _ => none }
def spaceAllRow : OpenClaim := { program := "ytjbjofmcmjojlaa", sum := "4c9b369942f9eb7762f300896ff6598ae2e0cb09ad2513e68747a72adaff1b6d", func := "slabvault/slabvaultlaw12.SpaceAll", spec := "spaceAll", unfollowed := true, recurses := true, apart := false }
def SpaceAllSaid : Prop := spaceAllRow.holds Try.pinned (OpenSpec.ofChange spaceAllSpec)

/-- ITS FALSE NEIGHBOUR: 'it returns false'. Refute it at one input. -/
def spaceAllWrong : ChangeSpec := { name := "spaceAll", fn := fun _ => fun
  | [d] => { results := [.lit (.bool false)], args := [d] }
  | _ => none }
def SpaceAllWrongFalsely : Prop := spaceAllRow.holds Try.pinned (OpenSpec.ofChange spaceAllWrong)

/-- 'slabvaultlaw12.SpaceChecks': WHATEVER THE INPUT: true; the input reads as it did. -/
def spaceChecksSpec : ChangeSpec := { name := "spaceChecks", fn := fun _ => fun
  | [d1, d2] => { results := [.lit (.bool true)], args := [d1, d2] }
  | _ => none }
def spaceChecksRow : OpenClaim := { program := "ytjbjofmcmjojlaa", sum := "4c9b369942f9eb7762f300896ff6598ae2e0cb09ad2513e68747a72adaff1b6d", func := "slabvault/slabvaultlaw12.SpaceChecks", spec := "spaceChecks", unfollowed := true, recurses := true, apart := false }
def SpaceChecksSaid : Prop := spaceChecksRow.holds Try.pinned (OpenSpec.ofChange spaceChecksSpec)

/-- ITS FALSE NEIGHBOUR: 'it returns false'. Refute it at one input. -/
def spaceChecksWrong : ChangeSpec := { name := "spaceChecks", fn := fun _ => fun
  | [d1, d2] => { results := [.lit (.bool false)], args := [d1, d2] }
  | _ => none }
def SpaceChecksWrongFalsely : Prop := spaceChecksRow.holds Try.pinned (OpenSpec.ofChange spaceChecksWrong)

/-- 'slabvaultlaw12.SpaceBeyond': WHATEVER THE INPUT: true; the input reads as it did. -/
def spaceBeyondSpec : ChangeSpec := { name := "spaceBeyond", fn := fun _ => fun
  | [d1, d2, d3, d4] => { results := [.lit (.bool true)], args := [d1, d2, d3, d4] }
  | _ => none }
def spaceBeyondRow : OpenClaim := { program := "ytjbjofmcmjojlaa", sum := "4c9b369942f9eb7762f300896ff6598ae2e0cb09ad2513e68747a72adaff1b6d", func := "slabvault/slabvaultlaw12.SpaceBeyond", spec := "spaceBeyond", unfollowed := true, recurses := true, apart := false }
def SpaceBeyondSaid : Prop := spaceBeyondRow.holds Try.pinned (OpenSpec.ofChange spaceBeyondSpec)

/-- ITS FALSE NEIGHBOUR: 'it returns false'. Refute it at one input. -/
def spaceBeyondWrong : ChangeSpec := { name := "spaceBeyond", fn := fun _ => fun
  | [d1, d2, d3, d4] => { results := [.lit (.bool false)], args := [d1, d2, d3, d4] }
  | _ => none }
def SpaceBeyondWrongFalsely : Prop := spaceBeyondRow.holds Try.pinned (OpenSpec.ofChange spaceBeyondWrong)

/-- 'slabvaultlaw12.SpaceTuples': WHATEVER THE INPUT: true; the input reads as it did. -/
def spaceTuplesSpec : ChangeSpec := { name := "spaceTuples", fn := fun _ => fun
  | [d1, d2] => { results := [.lit (.bool true)], args := [d1, d2] }
  | _ => none }
def spaceTuplesRow : OpenClaim := { program := "ytjbjofmcmjojlaa", sum := "4c9b369942f9eb7762f300896ff6598ae2e0cb09ad2513e68747a72adaff1b6d", func := "slabvault/slabvaultlaw12.SpaceTuples", spec := "spaceTuples", unfollowed := true, recurses := true, apart := false }
def SpaceTuplesSaid : Prop := spaceTuplesRow.holds Try.pinned (OpenSpec.ofChange spaceTuplesSpec)

/-- ITS FALSE NEIGHBOUR: 'it returns false'. Refute it at one input. -/
def spaceTuplesWrong : ChangeSpec := { name := "spaceTuples", fn := fun _ => fun
  | [d1, d2] => { results := [.lit (.bool false)], args := [d1, d2] }
  | _ => none }
def SpaceTuplesWrongFalsely : Prop := spaceTuplesRow.holds Try.pinned (OpenSpec.ofChange spaceTuplesWrong)

/-- 'slabvaultlaw12.SpacePoints': WHATEVER THE INPUT: true; the input reads as it did. -/
def spacePointsSpec : ChangeSpec := { name := "spacePoints", fn := fun _ => fun
  | [d1, d2] => { results := [.lit (.bool true)], args := [d1, d2] }
  | _ => none }
def spacePointsRow : OpenClaim := { program := "ytjbjofmcmjojlaa", sum := "4c9b369942f9eb7762f300896ff6598ae2e0cb09ad2513e68747a72adaff1b6d", func := "slabvault/slabvaultlaw12.SpacePoints", spec := "spacePoints", unfollowed := true, recurses := true, apart := false }
def SpacePointsSaid : Prop := spacePointsRow.holds Try.pinned (OpenSpec.ofChange spacePointsSpec)

/-- ITS FALSE NEIGHBOUR: 'it returns false'. Refute it at one input. -/
def spacePointsWrong : ChangeSpec := { name := "spacePoints", fn := fun _ => fun
  | [d1, d2] => { results := [.lit (.bool false)], args := [d1, d2] }
  | _ => none }
def SpacePointsWrongFalsely : Prop := spacePointsRow.holds Try.pinned (OpenSpec.ofChange spacePointsWrong)

/-- 'slabvaultlaw12.SpaceInside': WHATEVER THE INPUT: true; the input reads as it did. -/
def spaceInsideSpec : ChangeSpec := { name := "spaceInside", fn := fun _ => fun
  | [d1, d2] => { results := [.lit (.bool true)], args := [d1, d2] }
  | _ => none }
def spaceInsideRow : OpenClaim := { program := "ytjbjofmcmjojlaa", sum := "4c9b369942f9eb7762f300896ff6598ae2e0cb09ad2513e68747a72adaff1b6d", func := "slabvault/slabvaultlaw12.SpaceInside", spec := "spaceInside", unfollowed := true, recurses := true, apart := false }
def SpaceInsideSaid : Prop := spaceInsideRow.holds Try.pinned (OpenSpec.ofChange spaceInsideSpec)

/-- ITS FALSE NEIGHBOUR: 'it returns false'. Refute it at one input. -/
def spaceInsideWrong : ChangeSpec := { name := "spaceInside", fn := fun _ => fun
  | [d1, d2] => { results := [.lit (.bool false)], args := [d1, d2] }
  | _ => none }
def SpaceInsideWrongFalsely : Prop := spaceInsideRow.holds Try.pinned (OpenSpec.ofChange spaceInsideWrong)

/- THE SECOND FORM. 'bulk': how many values and letters a reading holds, each counted each time it is reached (what is shared counts as often as it is met; a slice's spare places count too). A statement '..UptoSaid' is the law's where the arguments, and the package variables that the reading takes, are together of bulk at most 1048576: NARROWER than '..Said'. Prove '..Said' where nothing that the law and all that it calls make is longer than what came in: it says more and counts as full. Else prove '..UptoSaid'. A law counts once. -/
mutual
def uptoBulk {H : Type} : DataW H → Nat
  | .lit (.string bytes) => bytes.length + 1
  | .lit _ => 1
  | .nil => 1
  | .ptr d => uptoBulk d + 1
  | .slice elems spare => uptoBulkAll elems + uptoBulkAll spare + 1
  | .agg parts => uptoBulkAll parts + 1
  | .iface _ d => uptoBulk d + 1
  | .map entries => uptoBulkEntries entries + 1
  | .held _ => 1
def uptoBulkAll {H : Type} : List (DataW H) → Nat
  | [] => 0
  | d :: r => uptoBulk d + uptoBulkAll r
def uptoBulkEntries {H : Type} : List (Lit × DataW H) → Nat
  | [] => 0
  | x :: r => uptoBulkEntry x + uptoBulkEntries r
def uptoBulkEntry {H : Type} : Lit × DataW H → Nat
  | (.string bytes, d) => bytes.length + uptoBulk d + 1
  | (_, d) => uptoBulk d + 1
 end
def uptoSmall : (H : Type) → List (DataW H) → Bool := fun _ ds => decide (uptoBulkAll ds ≤ 1048576)
def OpenSpec.upto (s : _root_.Go.ChangeSpec) : _root_.Go.OpenSpec := { _root_.Go.OpenSpec.ofChange s with cond := some uptoSmall }

/-- 'slabvaultlaw12.SpaceElements', WHERE WHAT IT READS IS OF BULK AT MOST 1048576: true; the input reads as it did. -/
def spaceElementsUptoRow : OpenClaim := { program := "ytjbjofmcmjojlaa", sum := "4c9b369942f9eb7762f300896ff6598ae2e0cb09ad2513e68747a72adaff1b6d", func := "slabvault/slabvaultlaw12.SpaceElements", spec := "spaceElements", unfollowed := true, recurses := true, apart := false, narrowed := true }
def SpaceElementsUptoSaid : Prop := spaceElementsUptoRow.holds Try.pinned (OpenSpec.upto spaceElementsSpec)

/-- 'slabvaultlaw12.SpacePlaces', WHERE WHAT IT READS IS OF BULK AT MOST 1048576: true; the input reads as it did. -/
def spacePlacesUptoRow : OpenClaim := { program := "ytjbjofmcmjojlaa", sum := "4c9b369942f9eb7762f300896ff6598ae2e0cb09ad2513e68747a72adaff1b6d", func := "slabvault/slabvaultlaw12.SpacePlaces", spec := "spacePlaces", unfollowed := true, recurses := true, apart := false, narrowed := true }
def SpacePlacesUptoSaid : Prop := spacePlacesUptoRow.holds Try.pinned (OpenSpec.upto spacePlacesSpec)

/-- 'slabvaultlaw12.SpaceAll', WHERE WHAT IT READS IS OF BULK AT MOST 1048576: true; the input reads as it did. -/
def spaceAllUptoRow : OpenClaim := { program := "ytjbjofmcmjojlaa", sum := "4c9b369942f9eb7762f300896ff6598ae2e0cb09ad2513e68747a72adaff1b6d", func := "slabvault/slabvaultlaw12.SpaceAll", spec := "spaceAll", unfollowed := true, recurses := true, apart := false, narrowed := true }
def SpaceAllUptoSaid : Prop := spaceAllUptoRow.holds Try.pinned (OpenSpec.upto spaceAllSpec)

/-- 'slabvaultlaw12.SpaceChecks', WHERE WHAT IT READS IS OF BULK AT MOST 1048576: true; the input reads as it did. -/
def spaceChecksUptoRow : OpenClaim := { program := "ytjbjofmcmjojlaa", sum := "4c9b369942f9eb7762f300896ff6598ae2e0cb09ad2513e68747a72adaff1b6d", func := "slabvault/slabvaultlaw12.SpaceChecks", spec := "spaceChecks", unfollowed := true, recurses := true, apart := false, narrowed := true }
def SpaceChecksUptoSaid : Prop := spaceChecksUptoRow.holds Try.pinned (OpenSpec.upto spaceChecksSpec)

/-- 'slabvaultlaw12.SpaceBeyond', WHERE WHAT IT READS IS OF BULK AT MOST 1048576: true; the input reads as it did. -/
def spaceBeyondUptoRow : OpenClaim := { program := "ytjbjofmcmjojlaa", sum := "4c9b369942f9eb7762f300896ff6598ae2e0cb09ad2513e68747a72adaff1b6d", func := "slabvault/slabvaultlaw12.SpaceBeyond", spec := "spaceBeyond", unfollowed := true, recurses := true, apart := false, narrowed := true }
def SpaceBeyondUptoSaid : Prop := spaceBeyondUptoRow.holds Try.pinned (OpenSpec.upto spaceBeyondSpec)

/-- 'slabvaultlaw12.SpaceTuples', WHERE WHAT IT READS IS OF BULK AT MOST 1048576: true; the input reads as it did. -/
def spaceTuplesUptoRow : OpenClaim := { program := "ytjbjofmcmjojlaa", sum := "4c9b369942f9eb7762f300896ff6598ae2e0cb09ad2513e68747a72adaff1b6d", func := "slabvault/slabvaultlaw12.SpaceTuples", spec := "spaceTuples", unfollowed := true, recurses := true, apart := false, narrowed := true }
def SpaceTuplesUptoSaid : Prop := spaceTuplesUptoRow.holds Try.pinned (OpenSpec.upto spaceTuplesSpec)

/-- 'slabvaultlaw12.SpacePoints', WHERE WHAT IT READS IS OF BULK AT MOST 1048576: true; the input reads as it did. -/
def spacePointsUptoRow : OpenClaim := { program := "ytjbjofmcmjojlaa", sum := "4c9b369942f9eb7762f300896ff6598ae2e0cb09ad2513e68747a72adaff1b6d", func := "slabvault/slabvaultlaw12.SpacePoints", spec := "spacePoints", unfollowed := true, recurses := true, apart := false, narrowed := true }
def SpacePointsUptoSaid : Prop := spacePointsUptoRow.holds Try.pinned (OpenSpec.upto spacePointsSpec)

/-- 'slabvaultlaw12.SpaceInside', WHERE WHAT IT READS IS OF BULK AT MOST 1048576: true; the input reads as it did. -/
def spaceInsideUptoRow : OpenClaim := { program := "ytjbjofmcmjojlaa", sum := "4c9b369942f9eb7762f300896ff6598ae2e0cb09ad2513e68747a72adaff1b6d", func := "slabvault/slabvaultlaw12.SpaceInside", spec := "spaceInside", unfollowed := true, recurses := true, apart := false, narrowed := true }
def SpaceInsideUptoSaid : Prop := spaceInsideUptoRow.holds Try.pinned (OpenSpec.upto spaceInsideSpec)

end Rows
end Go.Proofs.Ytjbjofmcmjojlaa
