/- Any extent has the document's number of elements, or is refused: for every slice of whole numbers. No condition. -/
import Derived.Test.YtjbjofmcmjojlaaPlain12
namespace Go.Proofs.Ytjbjofmcmjojlaa.Pure
open Go.RowKit Go.Proofs.Ytjbjofmcmjojlaa.Wk Go.Proofs.YtjbjofmcmjojlaaW.PrintWords Go.Proofs.YtjbjofmcmjojlaaW.PrintLast

theorem SpaceElements : slabvaultlaw12_SpaceElements.Pure := by
  intro l hm _ _
  refine Ev.rounds (g := fun k => slabvaultlaw12_SpaceElements.f k l) (r := true) ?_
  unfold slabvaultlaw12_SpaceElements.f
  rw [elements_eq]
  simp only [Option.bind_some]
  refine Ev.bind (refElements_ev l hm) ?_
  simp only [if_true]
  exact Ev.bind lives_ev (Ev.now true)
end Go.Proofs.Ytjbjofmcmjojlaa.Pure
