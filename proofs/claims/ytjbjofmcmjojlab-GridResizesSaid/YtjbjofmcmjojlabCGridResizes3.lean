-- Texts that the row GridResizes leans on, joined by wip/tools/mkclaim.py: Wk33, Wk34, Wk35, Plain13, Wk29, Wk30, Wk31, Wk32, Plain13b, Wk54, Wk55, PlainCover, PlainByte, Wk42, Wk44, Wk46, Wk50, PlainCut, PlainCut2, PlainCut3, PlainCut4, PlainCut5, PlainResize, PlainHeavy, PureGridResizes
import Derived.Test.YtjbjofmcmjojlabCGridResizes2
section
namespace Go.Proofs.Ytjbjofmcmjojlab.Wk
open Go.RowKit Go.Proofs.YtjbjofmcmjojlabW.PrintWords Go.Proofs.YtjbjofmcmjojlabW.PrintLast Go.Proofs.YtjbjofmcmjojlabW.PrintMore
attribute [local go_sem] max2_int min2_int max_two min_two max_three min_three max_four min_four
set_option linter.unusedVariables false
set_option linter.unusedSimpArgs false
def slabvaultref13_right.l0 : Nat → List Int → Int → Int → Option (Bool)
  | 0, _, _, _ => none
  | k + 1, x0, x1, x5 => if x5 < x1 then (if 0 ≤ x5 then (if x5 < (x0.length : Int) then (if (rd x0 x5) < 0 then (some false) else (slabvaultref13_right.l0 k x0 x1 (wrap64 (x5 + 1)))) else (none)) else (none)) else (some true)
def slabvaultref13_right.f (k : Nat) (l0 : List Int) (a1 : Int) : Option (Bool) := if (l0.length : Int) = a1 then (slabvaultref13_right.l0 k l0 a1 0) else (some false)
end Go.Proofs.Ytjbjofmcmjojlab.Wk
end
section
namespace Go.Proofs.Ytjbjofmcmjojlab.Wk
open Go.RowKit Go.Proofs.YtjbjofmcmjojlabW.PrintWords Go.Proofs.YtjbjofmcmjojlabW.PrintLast Go.Proofs.YtjbjofmcmjojlabW.PrintMore
attribute [local go_sem] max2_int min2_int max_two min_two max_three min_three max_four min_four
set_option linter.unusedVariables false
set_option linter.unusedSimpArgs false
def slabvaultref13_Clip.l0 : Nat → List Int → List Int → List Int → List Int → List Int → Int → Option (List Int × List Int × Int)
  | 0, _, _, _, _, _, _ => none
  | k + 1, x0, x1, x2, x10, x11, x12 => if x12 < (x0.length : Int) then (if 0 ≤ x12 then (if x12 < (x2.length : Int) then (if (rd x2 x12) ≤ (rd x0 x12) then (if x12 < (x1.length : Int) then (if (wrap64 ((rd x2 x12) * (rd x1 x12))) < (rd x0 x12) then (if x10.length < 17592186044416 then (if x11.length < 17592186044416 then (slabvaultref13_Clip.l0 k x0 x1 x2 (x10 ++ [wrap64 ((rd x2 x12) * (rd x1 x12))]) (x11 ++ [mn (rd x1 x12) (wrap64 ((rd x0 x12) - (wrap64 ((rd x2 x12) * (rd x1 x12)))))]) (wrap64 (x12 + 1))) else (none)) else (none)) else (if x10.length < 17592186044416 then (if x11.length < 17592186044416 then (slabvaultref13_Clip.l0 k x0 x1 x2 (x10 ++ [rd x0 x12]) (x11 ++ [mn (rd x1 x12) (wrap64 ((rd x0 x12) - (rd x0 x12)))]) (wrap64 (x12 + 1))) else (none)) else (none))) else (none)) else (if x10.length < 17592186044416 then (if x12 < (x1.length : Int) then (if x11.length < 17592186044416 then (slabvaultref13_Clip.l0 k x0 x1 x2 (x10 ++ [rd x0 x12]) (x11 ++ [mn (rd x1 x12) (wrap64 ((rd x0 x12) - (rd x0 x12)))]) (wrap64 (x12 + 1))) else (none)) else (none)) else (none))) else (none)) else (none)) else (some (x10, x11, 0))
def slabvaultref13_Clip.f (k : Nat) (l0 : List Int) (l1 : List Int) (l2 : List Int) : Option (List Int × List Int × Int) := (slabvaultref13_Fit.f k l0 l1).bind fun t188 => (if t188 = 0 then ((slabvaultref13_right.f k l2 (l0.length : Int)).bind fun t189 => (if t189 = true then (slabvaultref13_Clip.l0 k l0 l1 l2 ([] : List Int) ([] : List Int) 0) else (some (([] : List Int), ([] : List Int), 2)))) else (some (([] : List Int), ([] : List Int), t188)))
def slabvaultref13_Clip.T11 : Bool × List (List Nat × List Nat) := (true, [([], []), ([], []), ([0, 1], [0, 1]), ([2], [2]), ([], []), ([], []), ([4, 5], [4, 5]), ([6], [6]), ([3, 7], [3, 7]), ([8], [8]), ([9], [9]), ([9], [9]), ([10, 11, 9], [9, 10, 11]), ([12, 9], [9, 12]), ([9], [9]), ([9], [9]), ([14, 15, 9], [9, 14, 15]), ([16, 9], [9, 16]), ([13, 17, 9], [9, 13, 17]), ([9], [9]), ([9], [9]), ([19, 20, 9], [9, 19, 20]), ([21, 9], [9, 21]), ([18, 22, 9], [9, 18, 22]), ([9, 23], [9, 23])])
def slabvaultref13_Clip.B11 : List Nat := [0, 0, 3, 7, 0, 0, 48, 112, 255, 511, 1023, 1023, 4095, 8191, 1023, 1023, 50175, 115711, 262143, 1023, 1023, 1573887, 3671039, 8388607, 16777215]
def slabvaultref13_Clip.T12 : Bool × List (List Nat × List Nat) := (true, [([], []), ([], []), ([0, 1], [0, 1]), ([2], [2]), ([], []), ([], []), ([4, 5], [4, 5]), ([6], [6]), ([3, 7], [3, 7]), ([8, 0, 1, 2, 3, 4, 5, 6, 7, 8], [8])])
def slabvaultref13_Clip.B12 : List Nat := [0, 0, 3, 7, 0, 0, 48, 112, 255, 511]
def slabvaultref13_Clip.T14 : Bool × List (List Nat × List Nat) := (true, [([], []), ([], []), ([], []), ([1, 2], [1, 2]), ([3], [3]), ([], []), ([], []), ([5, 6], [5, 6]), ([7], [7]), ([], []), ([8, 9], [8, 9]), ([4, 10], [4, 10]), ([11], [11]), ([0, 12], [0, 12]), ([13, 13, 0, 1, 2, 3, 4, 5, 6, 7, 8, 9, 10, 11, 12, 13], [0, 13])])
def slabvaultref13_Clip.B14 : List Nat := [0, 0, 0, 6, 14, 0, 0, 96, 224, 0, 992, 2046, 4094, 8191, 16383]
end Go.Proofs.Ytjbjofmcmjojlab.Wk
end
section
namespace Go.Proofs.Ytjbjofmcmjojlab.Wk
open Go.RowKit Go.Proofs.YtjbjofmcmjojlabW.PrintWords Go.Proofs.YtjbjofmcmjojlabW.PrintLast Go.Proofs.YtjbjofmcmjojlabW.PrintMore
attribute [local go_sem] max2_int min2_int max_two min_two max_three min_three max_four min_four
set_option linter.unusedVariables false
set_option linter.unusedSimpArgs false
def slabvaultlaw13_GridClips.f (k : Nat) (l0 : List Int) (l1 : List Int) (l2 : List Int) : Option (Bool) := (grid_Clip.f k l0 l1 l2).bind fun bt222 => ((slabvaultref13_Clip.f k l0 l1 l2).bind fun bt229 => ((slabvaultlaw13_ints.f k bt222.1 bt229.1).bind fun t236 => (if t236 = true then ((slabvaultlaw13_ints.f k bt222.2.1 bt229.2.1).bind fun t237 => (if t237 = true then (if bt222.2.2 = bt229.2.2 then ((slabvaultlaw13_lives.f).bind fun t238 => (some t238)) else (none)) else (none))) else (none))))
def slabvaultlaw13_GridClips.Pure : Prop := ∀ (l0 : List Int) (l1 : List Int) (l2 : List Int), l0.length ≤ maxLen → l0.length * 8 ≤ 140737488351232 → (∀ x ∈ l0, (Lit.int .i64 x).wf = true) → l1.length ≤ maxLen → l1.length * 8 ≤ 140737488351232 → (∀ x ∈ l1, (Lit.int .i64 x).wf = true) → l2.length ≤ maxLen → l2.length * 8 ≤ 140737488351232 → (∀ x ∈ l2, (Lit.int .i64 x).wf = true) → ∃ k, slabvaultlaw13_GridClips.f k l0 l1 l2 = some true
end Go.Proofs.Ytjbjofmcmjojlab.Wk
end
section
namespace Go.Proofs.Ytjbjofmcmjojlab.Pure
open Go.RowKit Go.Proofs.Ytjbjofmcmjojlab.Wk Go.Proofs.YtjbjofmcmjojlabW.PrintWords Go.Proofs.YtjbjofmcmjojlabW.PrintLast Go.Proofs.YtjbjofmcmjojlabW.PrintMore
theorem wrap_up {i : Nat} {n : Nat} (h : i < n) (hn : n ≤ 9223372036854775807) : wrap64 ((i : Int) + 1) = ((i + 1 : Nat) : Int) := by unfold wrap64; omega
theorem rd_nat (l : List Int) (i : Nat) (h : i < l.length) : rd l (i : Int) = l[i] := by simp [rd, h]
def elemsT (l0 : List Int) : Int × Int := if 4 < l0.length ∨ l0.any badDim = true then (0, 2) else if l0.contains 0 = true then (0, 0) else prodLoop l0 l0.length 0 1
theorem elements_eq (l : List Int) : space_Elements.f l = some (elemsT l) := rfl
theorem ref_l2 (l : List Int) (hm : l.length ≤ 9223372036854775807) (hb : l.any badDim = false) : ∀ (d i : Nat) (n : Int), l.length - i = d → i ≤ l.length → 0 ≤ n → n ≤ 1048576 →
    Ev (fun k => slabvaultref12_Elements.l2 k l n i) (prodLoop l d i n) := by
  intro d
  induction d with
  | zero =>
    intro i n h hi _ _
    refine Ev.step (f := fun _ => some (n, 0)) (fun k => ?_) (Ev.now _)
    simp only [slabvaultref12_Elements.l2]
    rw [if_neg (by omega)]
  | succ d ih =>
    intro i n h hi h0 h1
    have hlt : i < l.length := by omega
    have hg := good_rd hb i hlt
    have hy1 : 0 ≤ n * rd l i := Int.mul_nonneg h0 hg.1
    have hy2 : n * rd l i ≤ 1048576 * 1048576 := Int.mul_le_mul h1 hg.2 hg.1 (by omega)
    have hw : wrap64 (n * rd l i) = n * rd l i := by unfold wrap64; omega
    by_cases hbig : n * rd l i > 1048576
    · refine Ev.step (f := fun _ => some (0, 3)) (fun k => ?_) (by rw [prodLoop, if_pos hbig]; exact Ev.now _)
      simp only [slabvaultref12_Elements.l2]
      rw [if_pos (by omega), if_pos (by omega), hw, if_pos hbig]
    · refine Ev.step (f := fun k => slabvaultref12_Elements.l2 k l (n * rd l i) ((i + 1 : Nat) : Int)) (fun k => ?_) (by rw [prodLoop, if_neg hbig]; exact ih (i + 1) _ (by omega) (by omega) hy1 (by omega))
      simp only [slabvaultref12_Elements.l2]
      rw [if_pos (by omega), if_pos (by omega), hw, if_neg hbig, wrap_up hlt hm]
theorem ref_l1 (l : List Int) (hm : l.length ≤ 9223372036854775807) (hb : l.any badDim = false) : ∀ (d i : Nat), l.length - i = d → i ≤ l.length →
    Ev (fun k => slabvaultref12_Elements.l1 k l 1 i) (if (l.drop i).contains 0 = true then (0, 0) else prodLoop l l.length 0 1) := by
  intro d
  induction d with
  | zero =>
    intro i h hi
    rw [List.drop_eq_nil_of_le (by omega)]
    refine Ev.step (f := fun k => slabvaultref12_Elements.l2 k l 1 0) (fun k => ?_) (ref_l2 l hm hb l.length 0 1 (by omega) (by omega) (by omega) (by omega))
    simp only [slabvaultref12_Elements.l1]
    rw [if_neg (by omega)]
  | succ d ih =>
    intro i h hi
    have hlt : i < l.length := by omega
    rw [List.drop_eq_getElem_cons hlt, List.contains_cons]
    have e := rd_nat l i hlt
    by_cases hz : rd l i = 0
    · refine Ev.step (f := fun _ => some (0, 0)) (fun k => ?_) (by rw [e] at hz; rw [hz]; exact Ev.now _)
      simp only [slabvaultref12_Elements.l1]
      rw [if_pos (by omega), if_pos (by omega), if_pos hz]
    · refine Ev.step (f := fun k => slabvaultref12_Elements.l1 k l 1 ((i + 1 : Nat) : Int)) (fun k => ?_) (by
        have : (0 == l[i]) = false := by
          rw [e] at hz
          exact beq_eq_false_iff_ne.2 (fun h0 => hz h0.symm)
        rw [this, Bool.false_or]
        exact ih (i + 1) (by omega) (by omega))
      simp only [slabvaultref12_Elements.l1]
      rw [if_pos (by omega), if_pos (by omega), if_neg hz, wrap_up hlt hm]
theorem ref_l0 (l : List Int) (hm : l.length ≤ 9223372036854775807) : ∀ (d i : Nat), l.length - i = d → i ≤ l.length → (l.take i).any badDim = false →
    Ev (fun k => slabvaultref12_Elements.l0 k l 1 i) (if (l.drop i).any badDim = true then (0, 2) else if l.contains 0 = true then (0, 0) else prodLoop l l.length 0 1) := by
  intro d
  induction d with
  | zero =>
    intro i h hi hb
    rw [List.drop_eq_nil_of_le (by omega)]
    rw [List.take_of_length_le (by omega)] at hb
    refine Ev.step (f := fun k => slabvaultref12_Elements.l1 k l 1 0) (fun k => ?_) (by
      have := ref_l1 l hm hb l.length 0 (by omega) (by omega)
      rw [List.drop_zero] at this
      rw [if_neg (by simp)]
      exact this)
    simp only [slabvaultref12_Elements.l0]
    rw [if_neg (by omega)]
  | succ d ih =>
    intro i h hi hb
    have hlt : i < l.length := by omega
    have e := rd_nat l i hlt
    rw [List.drop_eq_getElem_cons hlt, List.any_cons]
    by_cases h1 : rd l i < 0
    · refine Ev.step (f := fun _ => some (0, 2)) (fun k => ?_) (by
        have : badDim l[i] = true := by rw [e] at h1; simp [badDim, h1]
        rw [this]; exact Ev.now _)
      simp only [slabvaultref12_Elements.l0]
      rw [if_pos (by omega), if_pos (by omega), if_pos h1]
    · by_cases h2 : rd l i > 1048576
      · refine Ev.step (f := fun _ => some (0, 2)) (fun k => ?_) (by
          have : badDim l[i] = true := by rw [e] at h2; simp [badDim]; omega
          rw [this]; exact Ev.now _)
        simp only [slabvaultref12_Elements.l0]
        rw [if_pos (by omega), if_pos (by omega), if_neg h1, if_pos h2]
      · have hg : badDim l[i] = false := by rw [e] at h1 h2; simp [badDim]; omega
        refine Ev.step (f := fun k => slabvaultref12_Elements.l0 k l 1 ((i + 1 : Nat) : Int)) (fun k => ?_) (by
          rw [hg, Bool.false_or]
          exact ih (i + 1) (by omega) (by omega) (by rw [List.take_succ_eq_append_getElem hlt, List.any_append, hb]; simp [hg]))
        simp only [slabvaultref12_Elements.l0]
        rw [if_pos (by omega), if_pos (by omega), if_neg h1, if_neg h2, wrap_up hlt hm]
theorem refElements_ev (l : List Int) (hm : l.length ≤ 9223372036854775807) : Ev (fun k => slabvaultref12_Elements.f k l) (elemsT l) := by
  unfold elemsT
  by_cases h4 : 4 < l.length
  · rw [if_pos (.inl h4)]
    refine Ev.congr (f := fun _ => some (0, 2)) (fun k => ?_) (Ev.now _)
    unfold slabvaultref12_Elements.f
    rw [if_pos (by omega)]
  · refine Ev.congr (f := fun k => slabvaultref12_Elements.l0 k l 1 0) (fun k => ?_) ?_
    · unfold slabvaultref12_Elements.f
      rw [if_neg (by omega)]
    · have := ref_l0 l hm l.length 0 (by omega) (by omega) (by simp)
      simpa [h4] using this
def fitT (D H : List Int) : Int := if (elemsT D).2 = 0 then (if H.length = D.length then (if H.any badShape = true then 2 else (elemsT H).2) else 2) else (elemsT D).2
def rightT (c : List Int) (n : Nat) : Bool := decide (c.length = n) && !c.any negCoord
structure Good (D H : List Int) : Prop where
  len : D.length ≤ 4
  same : H.length = D.length
  dims : ∀ i : Nat, i < D.length → 0 ≤ rd D i ∧ rd D i ≤ 1048576
  shape : ∀ i : Nat, i < D.length → 1 ≤ rd H i ∧ rd H i ≤ 1048576
def clipAt (D H c : Int) : Int := if c * H < D then c * H else D
def clipS (D H c : List Int) (i : Nat) : List Int := (List.range' i (D.length - i)).map fun (d : Nat) => clipAt (rd D d) (rd H d) (rd c d)
def clipP (D H c : List Int) (i : Nat) : List Int := (List.range' i (D.length - i)).map fun (d : Nat) => mn (rd H d) (rd D d - clipAt (rd D d) (rd H d) (rd c d))
def clipT (D H c : List Int) : List Int × List Int × Int := if fitT D H = 0 then (if rightT c D.length = true then (clipS D H c 0, clipP D H c 0, 0) else ([], [], 2)) else ([], [], fitT D H)
end Go.Proofs.Ytjbjofmcmjojlab.Pure
end
section
namespace Go.Proofs.Ytjbjofmcmjojlab.Wk
open Go.RowKit Go.Proofs.YtjbjofmcmjojlabW.PrintWords Go.Proofs.YtjbjofmcmjojlabW.PrintLast Go.Proofs.YtjbjofmcmjojlabW.PrintMore
attribute [local go_sem] max2_int min2_int max_two min_two max_three min_three max_four min_four
set_option linter.unusedVariables false
set_option linter.unusedSimpArgs false
def slabvaultref13_Chunks.l0 : Nat → List Int → List Int → Int → Int → Option (Int × Int)
  | 0, _, _, _, _ => none
  | k + 1, x0, x1, x7, x8 => if x8 < (x0.length : Int) then (if 0 ≤ x8 then (if x8 < (x1.length : Int) then (if (rd x1 x8) = 0 then (none) else (slabvaultref13_Chunks.l0 k x0 x1 (wrap64 (x7 * (wrap64 (Int.tdiv (wrap64 ((wrap64 ((rd x0 x8) + (rd x1 x8))) - 1)) (rd x1 x8))))) (wrap64 (x8 + 1)))) else (none)) else (none)) else (some (x7, 0))
def slabvaultref13_Chunks.f (k : Nat) (l0 : List Int) (l1 : List Int) : Option (Int × Int) := (slabvaultref13_Fit.f k l0 l1).bind fun t149 => (if t149 = 0 then (slabvaultref13_Chunks.l0 k l0 l1 1 0) else (some (0, t149)))
end Go.Proofs.Ytjbjofmcmjojlab.Wk
end
section
namespace Go.Proofs.Ytjbjofmcmjojlab.Wk
open Go.RowKit Go.Proofs.YtjbjofmcmjojlabW.PrintWords Go.Proofs.YtjbjofmcmjojlabW.PrintLast Go.Proofs.YtjbjofmcmjojlabW.PrintMore
attribute [local go_sem] max2_int min2_int max_two min_two max_three min_three max_four min_four
set_option linter.unusedVariables false
set_option linter.unusedSimpArgs false
section
def ofLoop (A S : List Int) : Nat → Nat → List Int → List Int → List Int × List Int × Int
  | 0, _, x, y => (x, y, 0)
  | d + 1, i, x, y => if rd A i < 0 ∨ rd S i < 1 ∨ 1048576 < rd S i then ([], [], 2) else ofLoop A S d (i + 1) (x ++ [rd A i / rd S i]) (y ++ [rd A i % rd S i])
def grid_Of.f (l0 : List Int) (l1 : List Int) : Option (List Int × List Int × Int) :=
  if (∀ x ∈ l0, x ≤ 9223372036854775807) ∧ l0.length ≤ 9223372036854775807 ∧ l1.length ≤ 9223372036854775807 then some (if 4 < l0.length ∨ l0.length ≠ l1.length then ([], [], 2) else ofLoop l0 l1 l0.length 0 [] []) else none
end
end Go.Proofs.Ytjbjofmcmjojlab.Wk
end
section
namespace Go.Proofs.Ytjbjofmcmjojlab.Wk
open Go.RowKit Go.Proofs.YtjbjofmcmjojlabW.PrintWords Go.Proofs.YtjbjofmcmjojlabW.PrintLast Go.Proofs.YtjbjofmcmjojlabW.PrintMore
attribute [local go_sem] max2_int min2_int max_two min_two max_three min_three max_four min_four
set_option linter.unusedVariables false
set_option linter.unusedSimpArgs false
mutual
def slabvaultref13_Of.j0 : Nat → List Int → List Int → Bool → Option (List Int × List Int × Int)
  | 0, _, _, _ => none
  | k + 1, x0, x1, x19 => if x19 = true then (some (([] : List Int), ([] : List Int), 2)) else (slabvaultref13_Of.l0 k x0 x1 ([] : List Int) ([] : List Int) 0)
def slabvaultref13_Of.l0 : Nat → List Int → List Int → List Int → List Int → Int → Option (List Int × List Int × Int)
  | 0, _, _, _, _, _ => none
  | k + 1, x0, x1, x7, x8, x9 => if x9 < (x0.length : Int) then (if 0 ≤ x9 then (if (rd x0 x9) < 0 then (some (([] : List Int), ([] : List Int), 2)) else (if x9 < (x1.length : Int) then (if (rd x1 x9) < 1 then (some (([] : List Int), ([] : List Int), 2)) else (if (rd x1 x9) > 1048576 then (some (([] : List Int), ([] : List Int), 2)) else (if (rd x1 x9) = 0 then (none) else (if x7.length < 17592186044416 then (if x8.length < 17592186044416 then (slabvaultref13_Of.l0 k x0 x1 (x7 ++ [wrap64 (Int.tdiv (rd x0 x9) (rd x1 x9))]) (x8 ++ [Int.tmod (rd x0 x9) (rd x1 x9)]) (wrap64 (x9 + 1))) else (none)) else (none))))) else (none))) else (none)) else (some (x7, x8, 0))
end
def slabvaultref13_Of.f (k : Nat) (l0 : List Int) (l1 : List Int) : Option (List Int × List Int × Int) := if (l0.length : Int) > 4 then (slabvaultref13_Of.j0 k l0 l1 true) else (slabvaultref13_Of.j0 k l0 l1 ((l0.length : Int) != (l1.length : Int)))
def slabvaultref13_Of.T9 : Bool × List (List Nat × List Nat) := (true, [([], []), ([], []), ([], []), ([1, 2], [1, 2]), ([3], [3]), ([], []), ([], []), ([5, 6], [5, 6]), ([7], [7]), ([4, 8], [4, 8]), ([9], [9]), ([0, 10], [0, 10]), ([11, 11, 0, 1, 2, 3, 4, 5, 6, 7, 8, 9, 10, 11], [0, 11])])
def slabvaultref13_Of.B9 : List Nat := [0, 0, 0, 6, 14, 0, 0, 96, 224, 510, 1022, 2047, 4095]
def slabvaultref13_Of.T10 : Bool × List (List Nat × List Nat) := (true, [([], []), ([], []), ([], []), ([1, 2], [1, 2]), ([3], [3]), ([], []), ([], []), ([5, 6], [5, 6]), ([7], [7]), ([4, 8], [4, 8]), ([9], [9]), ([0, 10], [0, 10]), ([11, 11, 0, 1, 2, 3, 4, 5, 6, 7, 8, 9, 10, 11], [0, 11])])
def slabvaultref13_Of.B10 : List Nat := [0, 0, 0, 6, 14, 0, 0, 96, 224, 510, 1022, 2047, 4095]
end Go.Proofs.Ytjbjofmcmjojlab.Wk
end
section
namespace Go.Proofs.Ytjbjofmcmjojlab.Wk
open Go.RowKit Go.Proofs.YtjbjofmcmjojlabW.PrintWords Go.Proofs.YtjbjofmcmjojlabW.PrintLast Go.Proofs.YtjbjofmcmjojlabW.PrintMore
attribute [local go_sem] max2_int min2_int max_two min_two max_three min_three max_four min_four
set_option linter.unusedVariables false
set_option linter.unusedSimpArgs false
def slabvaultlaw13_GridCounts.f (k : Nat) (l0 : List Int) (l1 : List Int) (l2 : List Int) : Option (Bool) := (grid_Chunks.f k l0 l1).bind fun bt166 => ((slabvaultref13_Chunks.f k l0 l1).bind fun bt168 => ((grid_Of.f l2 l1).bind fun bt170 => ((slabvaultref13_Of.f k l2 l1).bind fun bt177 => (if bt166.1 = bt168.1 then (if bt166.2 = bt168.2 then ((slabvaultlaw13_ints.f k bt170.1 bt177.1).bind fun t184 => (if t184 = true then ((slabvaultlaw13_ints.f k bt170.2.1 bt177.2.1).bind fun t185 => (if t185 = true then (if bt170.2.2 = bt177.2.2 then ((slabvaultlaw13_lives.f).bind fun t186 => (some t186)) else (none)) else (none))) else (none))) else (none)) else (none)))))
def slabvaultlaw13_GridCounts.Pure : Prop := ∀ (l0 : List Int) (l1 : List Int) (l2 : List Int), l0.length ≤ maxLen → l0.length * 8 ≤ 140737488351232 → (∀ x ∈ l0, (Lit.int .i64 x).wf = true) → l1.length ≤ maxLen → l1.length * 8 ≤ 140737488351232 → (∀ x ∈ l1, (Lit.int .i64 x).wf = true) → l2.length ≤ maxLen → l2.length * 8 ≤ 140737488351232 → (∀ x ∈ l2, (Lit.int .i64 x).wf = true) → ∃ k, slabvaultlaw13_GridCounts.f k l0 l1 l2 = some true
end Go.Proofs.Ytjbjofmcmjojlab.Wk
end
section
namespace Go.Proofs.Ytjbjofmcmjojlab.Pure
open Go.RowKit Go.Proofs.Ytjbjofmcmjojlab.Wk Go.Proofs.YtjbjofmcmjojlabW.PrintWords Go.Proofs.YtjbjofmcmjojlabW.PrintLast Go.Proofs.YtjbjofmcmjojlabW.PrintMore
def chunkL (D H : List Int) : Nat → Nat → Int → Int
  | 0, _, n => n
  | d + 1, i, n => chunkL D H d (i + 1) (wrap64 (n * wrap64 (Int.tdiv (wrap64 (wrap64 (rd D i + rd H i) - 1)) (rd H i))))
def chunksT (D H : List Int) : Int × Int := if fitT D H = 0 then (chunkL D H D.length 0 1, 0) else (0, fitT D H)
def ofT (A S : List Int) : List Int × List Int × Int := if 4 < A.length ∨ A.length ≠ S.length then ([], [], 2) else ofLoop A S A.length 0 [] []
end Go.Proofs.Ytjbjofmcmjojlab.Pure
end
section
namespace Go.Proofs.Ytjbjofmcmjojlab.Wk
open Go.RowKit Go.Proofs.YtjbjofmcmjojlabW.PrintWords Go.Proofs.YtjbjofmcmjojlabW.PrintLast Go.Proofs.YtjbjofmcmjojlabW.PrintMore
attribute [local go_sem] max2_int min2_int max_two min_two max_three min_three max_four min_four
set_option linter.unusedVariables false
set_option linter.unusedSimpArgs false
def slabvaultlaw13_next.l0 : Nat → List Int → List Int → Int → Option (Bool × List Int)
  | 0, _, _, _ => none
  | k + 1, x0, x1, x5 => if x5 ≥ 0 then (if 0 ≤ x5 then (if x5 < (x0.length : Int) then ((some (x0.set (x5 : Int).toNat (wrap64 ((rd x0 x5) + 1)) : List Int)).bind fun y339 => (if x5 < (x1.length : Int) then (if (rd y339 x5) < (rd x1 x5) then (some (true, y339)) else (slabvaultlaw13_next.l0 k (y339.set (x5 : Int).toNat 0) x1 (wrap64 (x5 - 1)))) else (none))) else (none)) else (none)) else (some (false, x0))
def slabvaultlaw13_next.f (k : Nat) (l0 : List Int) (l1 : List Int) : Option (Bool × List Int) := slabvaultlaw13_next.l0 k l0 l1 (wrap64 ((l0.length : Int) - 1))
end Go.Proofs.Ytjbjofmcmjojlab.Wk
end
section
namespace Go.Proofs.Ytjbjofmcmjojlab.Wk
open Go.RowKit Go.Proofs.YtjbjofmcmjojlabW.PrintWords Go.Proofs.YtjbjofmcmjojlabW.PrintLast Go.Proofs.YtjbjofmcmjojlabW.PrintMore
attribute [local go_sem] max2_int min2_int max_two min_two max_three min_three max_four min_four
set_option linter.unusedVariables false
set_option linter.unusedSimpArgs false
def slabvaultlaw13_counts.l0 : Nat → List Int → List Int → List Int → Int → Option (List Int)
  | 0, _, _, _, _ => none
  | k + 1, x0, x1, x5, x6 => if x6 < (x0.length : Int) then (if 0 ≤ x6 then (if x6 < (x1.length : Int) then (if (rd x1 x6) = 0 then (none) else (if x5.length < 17592186044416 then (slabvaultlaw13_counts.l0 k x0 x1 (x5 ++ [wrap64 (Int.tdiv (wrap64 ((wrap64 ((rd x0 x6) + (rd x1 x6))) - 1)) (rd x1 x6))]) (wrap64 (x6 + 1))) else (none))) else (none)) else (none)) else (some x5)
def slabvaultlaw13_counts.f (k : Nat) (l0 : List Int) (l1 : List Int) : Option (List Int) := slabvaultlaw13_counts.l0 k l0 l1 ([] : List Int) 0
def slabvaultlaw13_counts.T5 : Bool × List (List Nat × List Nat) := (true, [([], []), ([], []), ([], []), ([1, 2], [1, 2]), ([3], [3]), ([], []), ([], []), ([5, 6], [5, 6]), ([7], [7]), ([4, 8], [4, 8]), ([9], [9]), ([], []), ([], []), ([11, 12], [11, 12]), ([13], [13]), ([10, 14], [10, 14]), ([15], [15]), ([0, 16], [0, 16]), ([17, 17, 0, 1, 2, 3, 4, 5, 6, 7, 8, 9, 10, 11, 12, 13, 14, 15, 16, 17], [0, 17])])
def slabvaultlaw13_counts.B5 : List Nat := [0, 0, 0, 6, 14, 0, 0, 96, 224, 510, 1022, 0, 0, 6144, 14336, 32766, 65534, 131071, 262143]
end Go.Proofs.Ytjbjofmcmjojlab.Wk
end
section
namespace Go.Proofs.Ytjbjofmcmjojlab.Pure
open Go.RowKit Go.Proofs.Ytjbjofmcmjojlab.Wk Go.Proofs.YtjbjofmcmjojlabW.PrintWords Go.Proofs.YtjbjofmcmjojlabW.PrintLast Go.Proofs.YtjbjofmcmjojlabW.PrintMore Go.Proofs.YtjbjofmcmjojlabQ
def prodI : List Int → Int
  | [] => 1
  | d :: D => d * prodI D
def sumI : List Int → Int
  | [] => 0
  | d :: D => d + sumI D
def cntI (d h : Int) : Nat := ((d + h - 1) / h).toNat
def cntL : List Int → List Int → List Nat
  | d :: D, h :: H => cntI d h :: cntL D H
  | _, _ => []
def partL : List Int → List Int → List Nat → Int
  | d :: D, h :: H, i :: s => mn h (d - (i : Int) * h) * partL D H s
  | _, _, _ => 1
def prodN : List Nat → Nat
  | [] => 1
  | n :: N => n * prodN N
theorem lex_length : ∀ (N : List Nat), (lexList N).length = prodN N
  | [] => rfl
  | n :: N => by
    simp only [lexList, prodN]
    have key : ∀ (l : List Nat), (l.flatMap fun i => (lexList N).map (i :: ·)).length = l.length * prodN N := by
      intro l
      induction l with
      | nil => simp
      | cons i l ih => rw [List.flatMap_cons, List.length_append, ih, List.length_map, lex_length N, List.length_cons, Nat.add_mul, Nat.one_mul, Nat.add_comm]
    rw [key, List.length_range]
theorem lex_mem : ∀ (N s : List Nat), s ∈ lexList N → s.length = N.length ∧ ∀ d, d < N.length → s.getD d 0 < N.getD d 0
  | [], s, h => by simp [lexList] at h; subst h; simp
  | n :: N, s, h => by
    simp only [lexList, List.mem_flatMap, List.mem_range, List.mem_map] at h
    obtain ⟨i, hi, t, ht, rfl⟩ := h
    have := lex_mem N t ht
    refine ⟨by simp [this.1], fun d hd => ?_⟩
    cases d with
    | zero => simpa using hi
    | succ d => simpa using this.2 d (by simpa using hd)
theorem rd_ints (s : List Nat) (i : Nat) : rd (ints s) (i : Int) = (s.getD i 0 : Nat) := by
  simp only [rd, ints]
  rcases Nat.lt_or_ge i s.length with h | h
  · simp [List.getD_eq_getElem?_getD, h]
  · simp [List.getD_eq_getElem?_getD, h]
structure Full (D H : List Int) : Prop where
  good : Good D H
  pos : ∀ x ∈ D, 1 ≤ x
theorem Full.dim {D H : List Int} (h : Full D H) (i : Nat) (hi : i < D.length) : 1 ≤ rd D i ∧ rd D i ≤ 1048576 := by
  have := h.good.dims i hi
  have h2 := h.pos _ (List.getElem_mem hi)
  rw [← rd_nat D i hi] at h2
  omega
theorem prodI_drop {D : List Int} (i : Nat) (hi : i < D.length) : prodI (D.drop i) = rd D i * prodI (D.drop (i + 1)) := by
  rw [List.drop_eq_getElem_cons hi, prodI, rd_nat D i hi]
theorem prodLoop_eq (D : List Int) : ∀ (d i : Nat) (n p : Int), D.length - i = d → i ≤ D.length → n ≤ 1048576 → prodLoop D d i n = (p, 0) → p = n * prodI (D.drop i) ∧ p ≤ 1048576 := by
  intro d
  induction d with
  | zero =>
    intro i n p h hi hn hp
    rw [List.drop_eq_nil_of_le (by omega)]
    cases hp
    simp [prodI]; omega
  | succ d ih =>
    intro i n p h hi hn hp
    have hlt : i < D.length := by omega
    rw [prodLoop] at hp
    split at hp
    · simp at hp
    · have := ih (i + 1) _ p (by omega) (by omega) (by omega) hp
      rw [prodI_drop i hlt, ← Int.mul_assoc]
      exact this
end Go.Proofs.Ytjbjofmcmjojlab.Pure
end
section
namespace Go.Proofs.Ytjbjofmcmjojlab.Pure
open Go.RowKit Go.Proofs.Ytjbjofmcmjojlab.Wk Go.Proofs.YtjbjofmcmjojlabW.PrintWords Go.Proofs.YtjbjofmcmjojlabW.PrintLast Go.Proofs.YtjbjofmcmjojlabW.PrintMore Go.Proofs.YtjbjofmcmjojlabQ
def placeN : List Nat → List Nat → Nat
  | d :: D, t :: T => t * prodN D + placeN D T
  | _, _ => 0
def addN (s t : List Nat) : List Nat := List.zipWith (· + ·) s t
theorem placeN_last : ∀ (D u : List Nat) (a x : Nat), D.length = u.length + 1 → placeN D (u ++ [a + x]) = placeN D (u ++ [x]) + a
  | [], u, _, _, h => by simp at h
  | [d], [], a, x, _ => by simp [placeN, prodN]; omega
  | d :: D, [], a, x, h => by
    have : D = [] := List.eq_nil_of_length_eq_zero (by simpa using h)
    subst this
    simp [placeN, prodN]; omega
  | d :: D, y :: u, a, x, h => by
    simp only [List.cons_append, placeN]
    rw [placeN_last D u a x (by simpa using h)]
    omega
theorem valid_place : ∀ (D T : List Nat), T ∈ lexList D → placeN D T < prodN D
  | [], T, h => by simp [lexList] at h; subst h; simp [placeN, prodN]
  | d :: D, T, h => by
    simp only [lexList, List.mem_flatMap, List.mem_range, List.mem_map] at h
    obtain ⟨i, hi, t, ht, rfl⟩ := h
    have h1 := valid_place D t ht
    have h2 : (i + 1) * prodN D ≤ d * prodN D := Nat.mul_le_mul_right _ hi
    simp only [placeN, prodN]
    rw [Nat.add_mul, Nat.one_mul] at h2
    omega
theorem range_blocks (M : Nat) : ∀ h : Nat, ((List.range h).flatMap fun i => (List.range M).map fun j => i * M + j) = List.range (h * M)
  | 0 => by simp
  | h + 1 => by
    rw [List.range_succ, List.flatMap_append, range_blocks M h, Nat.add_mul, Nat.one_mul, List.range_add]
    simp
theorem lex_places : ∀ H : List Nat, (lexList H).map (placeN H) = List.range (prodN H)
  | [] => rfl
  | h :: H => by
    simp only [lexList, prodN, List.map_flatMap, List.map_map]
    rw [← range_blocks]
    congr 1
    funext i
    rw [← lex_places H, List.map_map]
    rfl
theorem lex_index {H : List Nat} {pre suf : List (List Nat)} {t : List Nat} (h : lexList H = pre ++ t :: suf) : placeN H t = pre.length := by
  have h1 := lex_places H
  rw [h, List.map_append, List.map_cons] at h1
  have h2 := congrArg (fun l => l[pre.length]?) h1
  simp only [List.getElem?_append_right (show (pre.map (placeN H)).length ≤ pre.length by simp), List.length_map, Nat.sub_self, List.getElem?_cons_zero] at h2
  have h3 : pre.length < prodN H := by
    rw [← lex_length, h]; simp
  rw [List.getElem?_range h3] at h2
  exact Option.some.inj h2
theorem lex_snoc : ∀ (P : List Nat) (m : Nat), lexList (P ++ [m]) = (lexList P).flatMap fun s => (List.range m).map fun a => s ++ [a]
  | [], m => by
    have : ∀ n : Nat, (List.range n).flatMap (fun i => [[i]]) = (List.range n).map fun a => [a] := by
      intro n
      induction n with
      | zero => rfl
      | succ n ih => rw [List.range_succ, List.flatMap_append, ih, List.map_append]; rfl
    simpa [lexList] using this m
  | p :: P, m => by
    simp only [List.cons_append, lexList]
    rw [List.flatMap_assoc]
    congr 1
    funext i
    rw [lex_snoc P m, List.map_flatMap, List.flatMap_map]
    congr 1
    funext s
    rw [List.map_map]
    rfl
def insideB : List Nat → List Nat → Bool
  | p :: P, t :: T => decide (t < p) && insideB P T
  | _, _ => true
theorem range_part {α : Type} (f : Nat → List α) (p : Nat) : ∀ h : Nat, p ≤ h → ((List.range h).flatMap fun i => if i < p then f i else []) = (List.range p).flatMap f
  | 0, hp => by have : p = 0 := by omega
                subst this; rfl
  | h + 1, hp => by
    rcases Nat.lt_or_ge h p with hlt | hge
    · have : p = h + 1 := by omega
      subst this
      have : ∀ n : Nat, n ≤ h + 1 → ((List.range n).flatMap fun i => if i < h + 1 then f i else []) = (List.range n).flatMap f := by
        intro n
        induction n with
        | zero => intro _; rfl
        | succ n ih =>
          intro hn
          rw [List.range_succ, List.flatMap_append, List.flatMap_append, ih (by omega)]
          simp [show n < h + 1 by omega]
      exact this _ (Nat.le_refl _)
    · rw [List.range_succ, List.flatMap_append, range_part f p h hge]
      simp [show ¬ h < p by omega]
theorem lex_inside : ∀ (H P : List Nat), H.length = P.length → (∀ d, P.getD d 0 ≤ H.getD d 0) → (lexList H).filter (insideB P) = lexList P
  | [], [], _, _ => by simp [lexList, insideB]
  | h :: H, p :: P, hl, hle => by
    have h0 : p ≤ h := by simpa using hle 0
    have ih := lex_inside H P (by simpa using hl) (fun d => by simpa using hle (d + 1))
    simp only [lexList, List.filter_flatMap]
    rw [← range_part _ p h h0]
    congr 1
    funext i
    rw [List.filter_map, ← ih]
    by_cases c : i < p
    · rw [if_pos c]
      congr 1
      apply List.filter_congr
      intro t _
      simp [insideB, c]
    · rw [if_neg c]
      simp only [List.map_eq_nil_iff, List.filter_eq_nil_iff]
      intro t _
      simp [insideB, c]
def one (Z : Nat) (X O : List Int) (q : Nat × Nat) : List Int := laid O (q.1 * Z) ((X.drop (q.2 * Z)).take Z)
def puts (Z : Nat) (X O : List Int) (l : List (Nat × Nat)) : List Int := l.foldl (one Z X) O
theorem laid_get (xs ys : List Int) (o j : Nat) (h : o + ys.length ≤ xs.length) : (laid xs o ys).getD j 0 = if o ≤ j ∧ j < o + ys.length then ys.getD (j - o) 0 else xs.getD j 0 := by
  simp only [laid, List.getD_eq_getElem?_getD, List.getElem?_append, List.getElem?_take, List.getElem?_drop, List.length_take, List.length_append, List.length_drop]
  split
  · split
    · rw [if_neg (by omega)]
    · omega
  · split
    · rw [if_pos (by omega)]
      congr 2
      omega
    · rw [if_neg (by omega)]
      congr 2
      omega
theorem ext_get {xs ys : List Int} (hl : xs.length = ys.length) (h : ∀ j, j < xs.length → xs.getD j 0 = ys.getD j 0) : xs = ys := by
  apply List.ext_getElem hl
  intro j h1 h2
  have := h j h1
  simpa [List.getD_eq_getElem?_getD, h1, h2] using this
theorem block_length {X : List Int} {Z N f m : Nat} (hX : X.length = N * Z) (hf : f + m ≤ N) : ((X.drop (f * Z)).take (m * Z)).length = m * Z := by
  have : (f + m) * Z ≤ N * Z := Nat.mul_le_mul_right _ hf
  rw [Nat.add_mul] at this
  simp only [List.length_take, List.length_drop]
  omega
theorem block_get {X : List Int} {n o j : Nat} (hj : j < n) : ((X.drop o).take n).getD j 0 = X.getD (o + j) 0 := by
  simp only [List.getD_eq_getElem?_getD, List.getElem?_take, hj, if_true, List.getElem?_drop]
theorem laid_more {X O : List Int} {Z M N t f m : Nat} (hX : X.length = N * Z) (hO : O.length = M * Z) (ht : t + (m + 1) ≤ M) (hf : f + (m + 1) ≤ N) :
    laid O (t * Z) ((X.drop (f * Z)).take ((m + 1) * Z)) = one Z X (laid O (t * Z) ((X.drop (f * Z)).take (m * Z))) (t + m, f + m) := by
  have b1 := block_length hX hf
  have b2 := block_length (Z := Z) hX (show f + m ≤ N by omega)
  have b3 := block_length (Z := Z) (m := 1) hX (show (f + m) + 1 ≤ N by omega)
  rw [Nat.one_mul] at b3
  have ht' : (t + (m + 1)) * Z ≤ M * Z := Nat.mul_le_mul_right _ ht
  have e1 : (t + (m + 1)) * Z = t * Z + m * Z + Z := by rw [Nat.add_mul, Nat.add_mul, Nat.one_mul]; omega
  rw [e1] at ht'
  have e2 : (m + 1) * Z = m * Z + Z := by rw [Nat.add_mul, Nat.one_mul]
  have e3 : (t + m) * Z = t * Z + m * Z := Nat.add_mul _ _ _
  have e4 : (f + m) * Z = f * Z + m * Z := Nat.add_mul _ _ _
  have l1 : (laid O (t * Z) ((X.drop (f * Z)).take ((m + 1) * Z))).length = O.length := laid_length _ _ _ (by rw [b1]; omega)
  have l2 : (laid O (t * Z) ((X.drop (f * Z)).take (m * Z))).length = O.length := laid_length _ _ _ (by rw [b2]; omega)
  unfold one
  rw [e2] at b1 l1
  rw [e4] at b3
  simp only [e2, e3, e4]
  generalize t * Z = a at *
  generalize f * Z = c at *
  generalize m * Z = b at *
  generalize M * Z = mz at *
  have l3 : (laid (laid O a ((X.drop c).take b)) (a + b) ((X.drop (c + b)).take Z)).length = O.length := by rw [laid_length _ _ _ (by rw [l2, b3]; omega), l2]
  refine ext_get (by rw [l1, l3]) (fun j hj => ?_)
  rw [laid_get _ _ _ _ (by rw [b1]; omega), laid_get _ _ _ _ (by rw [l2, b3]; omega), laid_get _ _ _ _ (by rw [b2]; omega), b1, b2, b3]
  by_cases c1 : a ≤ j ∧ j < a + b
  · rw [if_pos ⟨c1.1, by omega⟩, if_neg (by omega), if_pos c1, block_get (by omega), block_get (by omega)]
  · by_cases c2 : a + b ≤ j ∧ j < a + b + Z
    · rw [if_pos ⟨by omega, by omega⟩, if_pos (by omega), block_get (by omega), block_get (by omega)]
      congr 1
      omega
    · rw [if_neg (by omega), if_neg (by omega), if_neg c1]
theorem one_length {X O : List Int} {Z M N : Nat} {q : Nat × Nat} (hX : X.length = N * Z) (hO : O.length = M * Z) (h1 : q.1 < M) (h2 : q.2 < N) : (one Z X O q).length = M * Z := by
  have b := block_length (Z := Z) (m := 1) hX (show q.2 + 1 ≤ N from h2)
  rw [Nat.one_mul] at b
  have : (q.1 + 1) * Z ≤ M * Z := Nat.mul_le_mul_right _ h1
  rw [Nat.add_mul, Nat.one_mul] at this
  unfold one
  rw [laid_length _ _ _ (by rw [b]; omega), hO]
theorem puts_length {X : List Int} {Z M N : Nat} (hX : X.length = N * Z) : ∀ (l : List (Nat × Nat)) (O : List Int), O.length = M * Z → (∀ q ∈ l, q.1 < M ∧ q.2 < N) → (puts Z X O l).length = M * Z
  | [], O, hO, _ => hO
  | q :: l, O, hO, h => by
    have hq := h q List.mem_cons_self
    exact puts_length hX l _ (one_length hX hO hq.1 hq.2) (fun q' hq' => h q' (List.mem_cons_of_mem _ hq'))
theorem row_puts {X O : List Int} {Z M N t f : Nat} (hX : X.length = N * Z) (hO : O.length = M * Z) : ∀ m : Nat, t + m ≤ M → f + m ≤ N →
    laid O (t * Z) ((X.drop (f * Z)).take (m * Z)) = puts Z X O ((List.range m).map fun a => (t + a, f + a))
  | 0, h1, _ => by
    have : t * Z ≤ M * Z := Nat.mul_le_mul_right _ (by omega)
    simp [puts, laid]
  | m + 1, h1, h2 => by
    rw [laid_more hX hO h1 h2, row_puts hX hO m (by omega) (by omega)]
    simp only [puts]
    rw [List.range_succ, List.map_append, List.foldl_append]
    rfl
theorem fold_ev {β : Type} (step : Nat → List Int → β → Option (List Int)) (stepN : List Int → β → List Int) (J : List Int → Prop) : ∀ (l : List β) (O : List Int), J O → (∀ q ∈ l, ∀ O, J O → Ev (fun k => step k O q) (stepN O q) ∧ J (stepN O q)) → Ev (fun k => l.foldlM (step k) O) (l.foldl stepN O)
  | [], O, _, _ => Ev.now _
  | q :: l, O, hJ, h => by
    have hq := h q List.mem_cons_self O hJ
    simp only [List.foldlM_cons, List.foldl_cons]
    exact Ev.bind hq.1 (fold_ev step stepN J l _ hq.2 (fun q' hq' => h q' (List.mem_cons_of_mem _ hq')))
theorem contains_ints (P : List Nat) : (ints P).contains 0 = P.contains 0 := by
  induction P with
  | nil => rfl
  | cons p P ih =>
    simp only [ints, List.map_cons, List.contains_cons] at ih ⊢
    rw [ih]
    congr 1
    cases p <;> rfl
theorem lex_nought : ∀ P : List Nat, P.contains 0 = true → lexList P = []
  | [], h => by simp at h
  | p :: P, h => by
    simp only [List.contains_cons, Bool.or_eq_true, beq_iff_eq] at h
    rcases h with h | h
    · subst h; simp [lexList]
    · simp [lexList, lex_nought P h]
theorem toNat_ints (s : List Nat) : (ints s).map Int.toNat = s := by
  induction s with
  | nil => rfl
  | cons x s ih =>
    simp only [ints, List.map_cons] at ih ⊢
    rw [ih]
    rfl
theorem toNat_at (s : List Nat) : (ints s ++ [0]).map Int.toNat = s ++ [0] := by
  rw [List.map_append, toNat_ints]; rfl
theorem rows_fold (step : Nat → List Int → List Int × Int → Option (List Int)) (Z M N : Nat) (X : List Int) (toF fromF : List Nat → Nat) (P : List Nat) (hX : X.length = N * Z)
    (hadd : ∀ (s : List Nat) (a : Nat), s.length + 1 = P.length → toF (s ++ [a]) = toF (s ++ [0]) + a ∧ fromF (s ++ [a]) = fromF (s ++ [0]) + a) (hb : ∀ t ∈ lexList P, toF t < M ∧ fromF t < N)
    (hstep : ∀ (O : List Int) (t : List Nat) (m : Nat), O.length = M * Z → 1 ≤ m → t ∈ lexList P → toF t + m ≤ M → fromF t + m ≤ N → Ev (fun k => step k O (ints t, (m : Int))) (laid O (toF t * Z) ((X.drop (fromF t * Z)).take (m * Z)))) (O : List Int) (hO : O.length = M * Z) :
    Ev (fun k => (rowsOf (ints P)).foldlM (step k) O) (puts Z X O ((lexList P).map fun t => (toF t, fromF t))) := by
  unfold rowsOf
  rw [contains_ints]
  by_cases hz : P.contains 0 = true
  · rw [if_pos hz, lex_nought P hz]
    exact Ev.now _
  rw [if_neg hz]
  rcases List.eq_nil_or_concat P with rfl | ⟨P', m, rfl⟩
  · have ht := hb [] (by simp [lexList])
    simp only [show ints [] = [] from rfl, if_true]
    refine Ev.bind (a := laid O (toF [] * Z) ((X.drop (fromF [] * Z)).take (1 * Z))) ?_ ?_
    · exact hstep O [] 1 hO (by omega) (by simp [lexList]) (by omega) (by omega)
    · simp only [lexList, List.map_cons, List.map_nil, puts, List.foldl_cons, List.foldl_nil, one, Nat.one_mul]
      exact Ev.now _
  · simp only [List.concat_eq_append] at *
    have hne : ints (P' ++ [m]) ≠ [] := by simp [ints]
    rw [if_neg hne]
    have e1 : (ints (P' ++ [m])).dropLast.map Int.toNat = P' := by
      rw [show (ints (P' ++ [m])).dropLast = ints P' by simp [ints], toNat_ints]
    have e2 : (((ints (P' ++ [m])).getLast?.getD 0).toNat : Int) = (m : Int) := by simp [ints]
    rw [e1, e2]
    have hm : 1 ≤ m := by
      rcases Nat.eq_zero_or_pos m with h0 | h0
      · subst h0; simp at hz
      · exact h0
    have hin : ∀ s ∈ lexList P', ∀ a, a < m → s ++ [a] ∈ lexList (P' ++ [m]) := by
      intro s hs a ha
      rw [lex_snoc]
      exact List.mem_flatMap.2 ⟨s, hs, List.mem_map.2 ⟨a, List.mem_range.2 ha, rfl⟩⟩
    have hat : ∀ s : List Nat, atOf s = ints (s ++ [0]) := by intro s; simp [atOf, ints]
    have hrow : ∀ s ∈ lexList P', toF (s ++ [0]) + m ≤ M ∧ fromF (s ++ [0]) + m ≤ N := by
      intro s hs
      have h1 := hb _ (hin s hs (m - 1) (by omega))
      have h2 := hadd s (m - 1) (by have := (lex_mem _ _ hs).1; simp; omega)
      omega
    have hmain := fold_ev step (fun O q => puts Z X O ((List.range m).map fun a => (toF ((q.1.map Int.toNat)) + a, fromF ((q.1.map Int.toNat)) + a))) (fun O => O.length = M * Z) ((lexList P').map fun s => (atOf s, (m : Int))) O hO (fun q hq O' hO' => by
      obtain ⟨s, hs, rfl⟩ := List.mem_map.1 hq
      have hr := hrow s hs
      have ht : (atOf s).map Int.toNat = s ++ [0] := toNat_at s
      simp only [ht]
      refine ⟨?_, puts_length (N := N) hX _ _ hO' (fun q' hq' => ?_)⟩
      · rw [← row_puts hX hO' m hr.1 hr.2, hat]
        exact hstep O' (s ++ [0]) m hO' hm (hin s hs 0 (by omega)) hr.1 hr.2
      · obtain ⟨a, ha, rfl⟩ := List.mem_map.1 hq'
        have := List.mem_range.1 ha
        simp only
        omega)
    have e3 : ∀ (l : List (List Nat)) (O : List Int), (∀ s ∈ l, s ∈ lexList P') → (l.map fun s => (atOf s, (m : Int))).foldl (fun O q => puts Z X O ((List.range m).map fun a => (toF ((q.1.map Int.toNat)) + a, fromF ((q.1.map Int.toNat)) + a))) O = puts Z X O ((l.flatMap fun s => (List.range m).map fun a => s ++ [a]).map fun t => (toF t, fromF t)) := by
      intro l
      induction l with
      | nil => intro O _; rfl
      | cons s l ih =>
        intro O hl
        have ht : (atOf s).map Int.toNat = s ++ [0] := toNat_at s
        rw [List.map_cons, List.foldl_cons, ih _ (fun x hx => hl x (List.mem_cons_of_mem _ hx)), List.flatMap_cons, List.map_append]
        simp only [puts]
        rw [List.foldl_append]
        congr 2
        rw [ht, List.map_map]
        apply List.map_congr_left
        intro a _
        have h2 := hadd s a (by have := (lex_mem _ _ (hl s List.mem_cons_self)).1; simp; omega)
        simp only [Function.comp, h2.1, h2.2]
    rw [e3 _ _ (fun s hs => hs), ← lex_snoc] at hmain
    exact hmain
theorem laid_over (G F R B : List Int) (h : B.length = F.length) : laid (G ++ (F ++ R)) G.length B = (G ++ B) ++ R := by
  simp only [laid, h]
  rw [List.take_left, List.drop_append, List.drop_eq_nil_of_le (show G.length ≤ G.length + F.length by omega), show G.length + F.length - G.length = F.length by omega, List.drop_left, List.nil_append, List.append_assoc]
theorem fill_puts {Z N : Nat} {X F : List Int} (hX : X.length = N * Z) (hF : F.length = Z) (H : List Nat) (inside : List Nat → Bool) (fromF : List Nat → Nat) : ∀ (suf pre : List (List Nat)) (G : List Int), lexList H = pre ++ suf → G.length = pre.length * Z → (∀ t ∈ suf, inside t = true → fromF t < N) →
    puts Z X (G ++ repB suf.length F) ((suf.filter inside).map fun t => (placeN H t, fromF t)) = G ++ suf.flatMap fun t => if inside t = true then (X.drop (fromF t * Z)).take Z else F
  | [], pre, G, _, _, _ => by simp [puts, repB]
  | t :: suf, pre, G, h, hG, hb => by
    have hp := lex_index h
    have e1 : repB (suf.length + 1) F = F ++ repB suf.length F := by
      rw [Nat.add_comm, repB_add]; simp [repB]
    rw [List.length_cons, e1, List.filter_cons, List.flatMap_cons]
    have hb' : ∀ x ∈ suf, inside x = true → fromF x < N := fun x hx => hb x (List.mem_cons_of_mem _ hx)
    by_cases c : inside t = true
    · rw [if_pos c, if_pos c]
      have hbl := block_length (Z := Z) (m := 1) hX (hb t List.mem_cons_self c)
      rw [Nat.one_mul] at hbl
      have hone : one Z X (G ++ (F ++ repB suf.length F)) (placeN H t, fromF t) = (G ++ (X.drop (fromF t * Z)).take Z) ++ repB suf.length F := by
        simp only [one]
        rw [hp, ← hG]
        exact laid_over G F _ _ (by rw [hbl, hF])
      simp only [List.map_cons, puts, List.foldl_cons]
      rw [hone]
      have := fill_puts hX hF H inside fromF suf (pre ++ [t]) (G ++ (X.drop (fromF t * Z)).take Z) (by rw [h]; simp) (by rw [List.length_append, hbl, hG, List.length_append, Nat.add_mul]; simp) hb'
      simp only [puts] at this
      rw [this, List.append_assoc]
    · rw [if_neg c, if_neg c, ← List.append_assoc]
      have := fill_puts hX hF H inside fromF suf (pre ++ [t]) (G ++ F) (by rw [h]; simp) (by rw [List.length_append, hF, hG, List.length_append, Nat.add_mul]; simp) hb'
      rw [this, List.append_assoc]
end Go.Proofs.Ytjbjofmcmjojlab.Pure
end
section
namespace Go.Proofs.Ytjbjofmcmjojlab.Wk
open Go.RowKit Go.Proofs.YtjbjofmcmjojlabW.PrintWords Go.Proofs.YtjbjofmcmjojlabW.PrintLast Go.Proofs.YtjbjofmcmjojlabW.PrintMore
attribute [local go_sem] max2_int min2_int max_two min_two max_three min_three max_four min_four
set_option linter.unusedVariables false
set_option linter.unusedSimpArgs false
mutual
def slabvaultref13_bytes.j0 : Nat → List Int → Int → List Int → List Int → List Int → List Int → Bool → Bool → Option (Int)
  | 0, _, _, _, _, _, _, _, _ => none
  | k + 1, x0, x1, x2, x3, x4, x5, x6, x32 => if x32 = true then (some 2) else ((slabvaultref12_Elements.f k x2).bind fun bt245 => ((slabvaultref12_Elements.f k x3).bind fun bt247 => (if (wrap64 (bt245.1 * x1)) > 65536 then (slabvaultref13_bytes.j1 k x0 x1 x2 x4 x5 x6 bt245.1 bt247.1 true) else (slabvaultref13_bytes.j1 k x0 x1 x2 x4 x5 x6 bt245.1 bt247.1 (decide ((wrap64 (bt247.1 * x1)) > 65536))))))
def slabvaultref13_bytes.j1 : Nat → List Int → Int → List Int → List Int → List Int → Bool → Int → Int → Bool → Option (Int)
  | 0, _, _, _, _, _, _, _, _, _ => none
  | k + 1, x0, x1, x2, x4, x5, x6, x16, x18, x52 => if x52 = true then (some 3) else (if x6 = true then (slabvaultref13_bytes.j2 k x0 x1 x2 x4 x5 x16 (wrap64 (x18 * x1))) else (slabvaultref13_bytes.j2 k x0 x1 x2 x4 x5 x16 x1))
def slabvaultref13_bytes.j2 : Nat → List Int → Int → List Int → List Int → List Int → Int → Int → Option (Int)
  | 0, _, _, _, _, _, _, _ => none
  | k + 1, x0, x1, x2, x4, x5, x16, x20 => if (x0.length : Int) = (wrap64 (x16 * x1)) then (if (x5.length : Int) = x20 then ((slabvaultref13_right.f k x4 (x2.length : Int)).bind fun t249 => (if t249 = true then (some 0) else (some 2))) else (some 2)) else (some 2)
end
def slabvaultref13_bytes.f (k : Nat) (l0 : List Int) (a1 : Int) (l2 : List Int) (l3 : List Int) (l4 : List Int) (l5 : List Int) (a6 : Bool) : Option (Int) := (slabvaultref13_Fit.f k l2 l3).bind fun t244 => (if t244 = 0 then (if a1 < 1 then (slabvaultref13_bytes.j0 k l0 a1 l2 l3 l4 l5 a6 true) else (slabvaultref13_bytes.j0 k l0 a1 l2 l3 l4 l5 a6 (decide (a1 > 256)))) else (some t244))
end Go.Proofs.Ytjbjofmcmjojlab.Wk
end
section
namespace Go.Proofs.Ytjbjofmcmjojlab.Wk
open Go.RowKit Go.Proofs.YtjbjofmcmjojlabW.PrintWords Go.Proofs.YtjbjofmcmjojlabW.PrintLast Go.Proofs.YtjbjofmcmjojlabW.PrintMore
attribute [local go_sem] max2_int min2_int max_two min_two max_three min_three max_four min_four
set_option linter.unusedVariables false
set_option linter.unusedSimpArgs false
def slabvaultref13_where.l0 : Nat → List Int → List Int → List Int → List Int → List Int → Int → Option (List Int × Bool)
  | 0, _, _, _, _, _, _ => none
  | k + 1, x0, x1, x2, x3, x10, x11 => if x11 < (x0.length : Int) then (if 0 ≤ x11 then (if x11 < (x2.length : Int) then (if (rd x2 x11) > (rd x0 x11) then (some (([] : List Int), false)) else (if x11 < (x1.length : Int) then (if x11 < (x3.length : Int) then (if (wrap64 ((wrap64 ((rd x2 x11) * (rd x1 x11))) + (rd x3 x11))) ≥ (rd x0 x11) then (some (([] : List Int), false)) else (if x10.length < 17592186044416 then (slabvaultref13_where.l0 k x0 x1 x2 x3 (x10 ++ [wrap64 ((wrap64 ((rd x2 x11) * (rd x1 x11))) + (rd x3 x11))]) (wrap64 (x11 + 1))) else (none))) else (none)) else (none))) else (none)) else (none)) else (some (x10, true))
def slabvaultref13_where.f (k : Nat) (l0 : List Int) (l1 : List Int) (l2 : List Int) (l3 : List Int) : Option (List Int × Bool) := slabvaultref13_where.l0 k l0 l1 l2 l3 ([] : List Int) 0
def slabvaultref13_where.T5 : Bool × List (List Nat × List Nat) := (true, [([], []), ([], []), ([0, 1], [0, 1]), ([2], [2]), ([], []), ([], []), ([4, 5], [4, 5]), ([6], [6]), ([3, 7], [3, 7]), ([8], [8]), ([9], [9]), ([9], [9]), ([10, 11, 9], [9, 10, 11]), ([12, 9], [9, 12]), ([9], [9]), ([9], [9]), ([14, 15, 9], [9, 14, 15]), ([16, 9], [9, 16]), ([13, 17, 9], [9, 13, 17]), ([9], [9]), ([9], [9]), ([19, 20, 9], [9, 19, 20]), ([21, 9], [9, 21]), ([18, 22, 9], [9, 18, 22]), ([9], [9]), ([9], [9]), ([24, 25, 9], [9, 24, 25]), ([26, 9], [9, 26]), ([23, 27, 9], [9, 23, 27]), ([9, 28], [9, 28])])
def slabvaultref13_where.B5 : List Nat := [0, 0, 3, 7, 0, 0, 48, 112, 255, 511, 1023, 1023, 4095, 8191, 1023, 1023, 50175, 115711, 262143, 1023, 1023, 1573887, 3671039, 8388607, 1023, 1023, 50332671, 117441535, 268435455, 536870911]
def slabvaultref13_where.T7 : Bool × List (List Nat × List Nat) := (true, [([], []), ([], []), ([], []), ([1, 2], [1, 2]), ([3], [3]), ([], []), ([], []), ([5, 6], [5, 6]), ([7], [7]), ([4, 8], [4, 8]), ([], []), ([], []), ([10, 11], [10, 11]), ([12], [12]), ([9, 13], [9, 13]), ([14], [14]), ([0, 15], [0, 15]), ([16, 16, 0, 1, 2, 3, 4, 5, 6, 7, 8, 9, 10, 11, 12, 13, 14, 15, 16], [0, 16])])
def slabvaultref13_where.B7 : List Nat := [0, 0, 0, 6, 14, 0, 0, 96, 224, 510, 0, 0, 3072, 7168, 16382, 32766, 65535, 131071]
end Go.Proofs.Ytjbjofmcmjojlab.Wk
end
section
namespace Go.Proofs.Ytjbjofmcmjojlab.Wk
open Go.RowKit Go.Proofs.YtjbjofmcmjojlabW.PrintWords Go.Proofs.YtjbjofmcmjojlabW.PrintLast Go.Proofs.YtjbjofmcmjojlabW.PrintMore
attribute [local go_sem] max2_int min2_int max_two min_two max_three min_three max_four min_four
set_option linter.unusedVariables false
set_option linter.unusedSimpArgs false
def slabvaultref13_Cut.l0 : Nat → List Int → Int → List Int → List Int → List Int → List Int → List Int → List (List Int) → Int → Option (List Int × Int)
  | 0, _, _, _, _, _, _, _, _, _ => none
  | k + 1, x0, x1, x2, x3, x4, x5, x15, x16, x17 => if x17 < (x16.length : Int) then (if 0 ≤ x17 then ((slabvaultref13_where.f k x2 x3 x4 (rd_L1 x16 x17)).bind fun bt289 => (if bt289.2 = true then ((slabvaultref12_Place.f k x2 bt289.1).bind fun t293 => (if 0 ≤ (wrap64 (t293 * x1)) then (if (wrap64 (t293 * x1)) ≤ (wrap64 ((wrap64 (t293 * x1)) + x1)) then (if (wrap64 ((wrap64 (t293 * x1)) + x1)) ≤ (x0.length : Int) then (if x15.length + ((x0.take ((wrap64 ((wrap64 (t293 * x1)) + x1)) : Int).toNat).drop ((wrap64 (t293 * x1)) : Int).toNat).length < 140737488355328 then (slabvaultref13_Cut.l0 k x0 x1 x2 x3 x4 x5 (x15 ++ ((x0.take ((wrap64 ((wrap64 (t293 * x1)) + x1)) : Int).toNat).drop ((wrap64 (t293 * x1)) : Int).toNat)) x16 (wrap64 (x17 + 1))) else (none)) else (none)) else (none)) else (none))) else (if x15.length + x5.length < 140737488355328 then (slabvaultref13_Cut.l0 k x0 x1 x2 x3 x4 x5 (x15 ++ x5) x16 (wrap64 (x17 + 1))) else (none)))) else (none)) else (some (x15, 0))
def slabvaultref13_Cut.f (k : Nat) (l0 : List Int) (a1 : Int) (l2 : List Int) (l3 : List Int) (l4 : List Int) (l5 : List Int) : Option (List Int × Int) := (slabvaultref13_bytes.f k l0 a1 l2 l3 l4 l5 false).bind fun t284 => (if t284 = 0 then ((slabvaultref13_tuples.f k l3).bind fun t285 => (slabvaultref13_Cut.l0 k l0 a1 l2 l3 l4 l5 ([] : List Int) t285 0)) else (some (([] : List Int), t284)))
end Go.Proofs.Ytjbjofmcmjojlab.Wk
end
section
namespace Go.Proofs.Ytjbjofmcmjojlab.Wk
open Go.RowKit Go.Proofs.YtjbjofmcmjojlabW.PrintWords Go.Proofs.YtjbjofmcmjojlabW.PrintLast Go.Proofs.YtjbjofmcmjojlabW.PrintMore
attribute [local go_sem] max2_int min2_int max_two min_two max_three min_three max_four min_four
set_option linter.unusedVariables false
set_option linter.unusedSimpArgs false
mutual
def slabvaultref13_Paste.l0 : Nat → Int → List Int → List Int → List Int → List Int → List Int → List (List Int) → Int → Option (List Int × Int)
  | 0, _, _, _, _, _, _, _, _ => none
  | k + 1, x1, x2, x3, x4, x5, x15, x16, x17 => if x17 < (x16.length : Int) then (if 0 ≤ x17 then ((slabvaultref13_where.f k x2 x3 x4 (rd_L1 x16 x17)).bind fun bt312 => (if bt312.2 = true then ((slabvaultref12_Place.f k x2 bt312.1).bind fun t316 => (slabvaultref13_Paste.l1 k x1 x2 x3 x4 x5 x15 x16 x17 (wrap64 (t316 * x1)) 0)) else (slabvaultref13_Paste.l0 k x1 x2 x3 x4 x5 x15 x16 (wrap64 (x17 + 1))))) else (none)) else (some (x15, 0))
def slabvaultref13_Paste.l1 : Nat → Int → List Int → List Int → List Int → List Int → List Int → List (List Int) → Int → Int → Int → Option (List Int × Int)
  | 0, _, _, _, _, _, _, _, _, _, _ => none
  | k + 1, x1, x2, x3, x4, x5, x15, x16, x17, x20, x21 => if x21 < x1 then (if 0 ≤ (wrap64 ((wrap64 (x17 * x1)) + x21)) then (if (wrap64 ((wrap64 (x17 * x1)) + x21)) < (x5.length : Int) then (if 0 ≤ (wrap64 (x20 + x21)) then (if (wrap64 (x20 + x21)) < (x15.length : Int) then (slabvaultref13_Paste.l1 k x1 x2 x3 x4 x5 (x15.set ((wrap64 (x20 + x21)) : Int).toNat (rd x5 (wrap64 ((wrap64 (x17 * x1)) + x21)))) x16 x17 x20 (wrap64 (x21 + 1))) else (none)) else (none)) else (none)) else (none)) else (slabvaultref13_Paste.l0 k x1 x2 x3 x4 x5 x15 x16 (wrap64 (x17 + 1)))
end
def slabvaultref13_Paste.f (k : Nat) (l0 : List Int) (a1 : Int) (l2 : List Int) (l3 : List Int) (l4 : List Int) (l5 : List Int) : Option (List Int × Int) := (slabvaultref13_bytes.f k l0 a1 l2 l3 l4 l5 true).bind fun t301 => (if t301 = 0 then ((some (([] : List Int) : List Int)).bind fun y302 => (if y302.length + l0.length < 140737488355328 then ((slabvaultref13_tuples.f k l3).bind fun t308 => (slabvaultref13_Paste.l0 k a1 l2 l3 l4 l5 (y302 ++ l0) t308 0)) else (none))) else (some (([] : List Int), t301)))
end Go.Proofs.Ytjbjofmcmjojlab.Wk
end
section
namespace Go.Proofs.Ytjbjofmcmjojlab.Pure
open Go.RowKit Go.Proofs.Ytjbjofmcmjojlab.Wk Go.Proofs.YtjbjofmcmjojlabW.PrintWords Go.Proofs.YtjbjofmcmjojlabW.PrintLast Go.Proofs.YtjbjofmcmjojlabW.PrintMore Go.Proofs.YtjbjofmcmjojlabQ
theorem lex_of : ∀ D T : List Nat, T.length = D.length → (∀ d, d < D.length → T.getD d 0 < D.getD d 0) → T ∈ lexList D
  | [], T, hl, _ => by
    have : T = [] := List.eq_nil_of_length_eq_zero hl
    subst this; simp [lexList]
  | d :: D, [], hl, _ => by simp at hl
  | d :: D, t :: T, hl, h => by
    simp only [lexList, List.mem_flatMap, List.mem_range, List.mem_map]
    refine ⟨t, by simpa using h 0 (by simp), T, lex_of D T (by simpa using hl) (fun j hj => ?_), rfl⟩
    simpa using h (j + 1) (by simpa using hj)
theorem getD_drop (D : List Nat) (i : Nat) (h : i < D.length) : D.drop i = D.getD i 0 :: D.drop (i + 1) := by
  rw [List.drop_eq_getElem_cons h]
  simp [List.getD_eq_getElem?_getD, h]
theorem prodN_ge : ∀ D : List Nat, (∀ d, d < D.length → 1 ≤ D.getD d 0) → 1 ≤ prodN D
  | [], _ => by simp [prodN]
  | d :: D, h => by
    have h1 := prodN_ge D (fun j hj => by simpa using h (j + 1) (by simpa using hj))
    have h2 : 1 ≤ d := by simpa using h 0 (by simp)
    exact Nat.mul_le_mul h2 h1
theorem ints_length (s : List Nat) : (ints s).length = s.length := by simp [ints]
theorem place_step {n d t R : Nat} (ht : t < d) (hR : 1 ≤ R) (h : (n + 1) * (d * R) ≤ 1048576) : wrap64 (wrap64 ((n : Int) * (d : Int)) + (t : Int)) = ((n * d + t : Nat) : Int) ∧ (n * d + t + 1) * R ≤ 1048576 := by
  have h1 : n * d + t + 1 ≤ (n + 1) * d := by rw [Nat.add_mul, Nat.one_mul]; omega
  have h2 : (n * d + t + 1) * R ≤ (n + 1) * d * R := Nat.mul_le_mul_right _ h1
  rw [Nat.mul_assoc] at h2
  have h3 : (n * d + t + 1) * 1 ≤ (n * d + t + 1) * R := Nat.mul_le_mul_left _ hR
  have e : (n : Int) * (d : Int) = ((n * d : Nat) : Int) := by push_cast; rfl
  rw [e]
  refine ⟨?_, by omega⟩
  generalize n * d = q at *
  unfold wrap64; omega
theorem valid_rest {D T : List Nat} (hv : ∀ d, d < D.length → T.getD d 0 < D.getD d 0) (i : Nat) : 1 ≤ prodN (D.drop i) := by
  apply prodN_ge
  intro d hd
  rw [List.length_drop] at hd
  have := hv (i + d) (by omega)
  simp only [List.getD_eq_getElem?_getD, List.getElem?_drop] at this ⊢
  omega
theorem place_sum {n d t R p : Nat} : (n * d + t) * R + p = n * (d * R) + (t * R + p) := by
  rw [Nat.add_mul, Nat.mul_assoc]; omega
theorem place_l0 (D T : List Nat) (h4 : D.length ≤ 4) (hl : T.length = D.length) (hv : ∀ d, d < D.length → T.getD d 0 < D.getD d 0) : ∀ (d i n : Nat), D.length - i = d → i ≤ D.length → (n + 1) * prodN (D.drop i) ≤ 1048576 →
    Ev (fun k => grid_place.l0 k (ints D) (ints T) (n : Int) (D.length : Int) i) ((n * prodN (D.drop i) + placeN (D.drop i) (T.drop i) : Nat) : Int) := by
  have l1 := ints_length D
  have l2 := ints_length T
  intro d
  induction d with
  | zero =>
    intro i n h hi _
    refine Ev.step (f := fun _ => some (n : Int)) (fun k => ?_) ?_
    · simp only [grid_place.l0]
      rw [if_neg (by omega)]
    · rw [List.drop_eq_nil_of_le (show D.length ≤ i by omega)]
      simpa [prodN, placeN] using Ev.now (n : Int)
  | succ d ih =>
    intro i n h hi hb
    have hlt : i < D.length := by omega
    rw [getD_drop D i hlt, getD_drop T i (by omega), prodN] at *
    have hs := place_step (hv i hlt) (valid_rest hv (i + 1)) hb
    rw [placeN, ← place_sum]
    refine Ev.step (f := fun k => grid_place.l0 k (ints D) (ints T) ((n * D.getD i 0 + T.getD i 0 : Nat) : Int) (D.length : Int) ((i + 1 : Nat) : Int)) (fun k => ?_) (ih (i + 1) _ (by omega) (by omega) hs.2)
    simp only [grid_place.l0]
    rw [if_pos (by omega), if_pos (by omega), if_pos (by omega), if_pos (by omega), rd_ints, rd_ints, hs.1, wrap_up hlt (by omega)]
theorem place_ev (D T : List Nat) (h4 : D.length ≤ 4) (hT : T ∈ lexList D) (hp : prodN D ≤ 1048576) : Ev (fun k => grid_place.f k (ints D) (ints T)) ((placeN D T : Nat) : Int) := by
  have hm := lex_mem D T hT
  unfold grid_place.f
  have := place_l0 D T h4 hm.1 hm.2 D.length 0 0 (by omega) (by omega) (by simpa using hp)
  simpa [ints_length] using this
theorem refPlace_l0 (D T : List Nat) (h4 : D.length ≤ 4) (hl : T.length = D.length) (hv : ∀ d, d < D.length → T.getD d 0 < D.getD d 0) : ∀ (d i n : Nat), D.length - i = d → i ≤ D.length → (n + 1) * prodN (D.drop i) ≤ 1048576 →
    Ev (fun k => slabvaultref12_Place.l0 k (ints D) (ints T) (n : Int) i) ((n * prodN (D.drop i) + placeN (D.drop i) (T.drop i) : Nat) : Int) := by
  have l1 := ints_length D
  have l2 := ints_length T
  intro d
  induction d with
  | zero =>
    intro i n h hi _
    refine Ev.step (f := fun _ => some (n : Int)) (fun k => ?_) ?_
    · simp only [slabvaultref12_Place.l0]
      rw [if_neg (by omega)]
    · rw [List.drop_eq_nil_of_le (show D.length ≤ i by omega)]
      simpa [prodN, placeN] using Ev.now (n : Int)
  | succ d ih =>
    intro i n h hi hb
    have hlt : i < D.length := by omega
    rw [getD_drop D i hlt, getD_drop T i (by omega), prodN] at *
    have hs := place_step (hv i hlt) (valid_rest hv (i + 1)) hb
    rw [placeN, ← place_sum]
    refine Ev.step (f := fun k => slabvaultref12_Place.l0 k (ints D) (ints T) ((n * D.getD i 0 + T.getD i 0 : Nat) : Int) ((i + 1 : Nat) : Int)) (fun k => ?_) (ih (i + 1) _ (by omega) (by omega) hs.2)
    simp only [slabvaultref12_Place.l0]
    rw [if_pos (by omega), if_pos (by omega), if_pos (by omega), rd_ints, rd_ints, hs.1, wrap_up hlt (by omega)]
theorem refPlace_ev (D T : List Nat) (h4 : D.length ≤ 4) (hT : T ∈ lexList D) (hp : prodN D ≤ 1048576) : Ev (fun k => slabvaultref12_Place.f k (ints D) (ints T)) ((placeN D T : Nat) : Int) := by
  have hm := lex_mem D T hT
  unfold slabvaultref12_Place.f
  have := refPlace_l0 D T h4 hm.1 hm.2 D.length 0 0 (by omega) (by omega) (by simpa using hp)
  simpa using this
theorem mul_cast (p Z : Nat) : ((p : Nat) : Int) * (Z : Int) = ((p * Z : Nat) : Int) := by push_cast; rfl
structure Ext (D : List Int) (E : List Nat) : Prop where
  eq : D = ints E
  len : E.length ≤ 4
  dim : ∀ d, E.getD d 0 ≤ 1048576
  prod : prodN E ≤ 1048576
  elems : elemsT D = (((prodN E : Nat) : Int), 0)
theorem prodI_ints (E : List Nat) : prodI (ints E) = ((prodN E : Nat) : Int) := by
  induction E with
  | nil => rfl
  | cons e E ih =>
    simp only [ints, List.map_cons, prodI, prodN] at ih ⊢
    rw [ih]; push_cast; rfl
theorem prodN_nought (E : List Nat) (h : E.contains 0 = true) : prodN E = 0 := by
  rw [← lex_length, lex_nought E h]; rfl
theorem ext_of {D : List Int} (h : (elemsT D).2 = 0) : Ext D (D.map Int.toNat) := by
  have h4 : ¬ (4 < D.length ∨ D.any badDim = true) := by
    intro hc
    unfold elemsT at h
    rw [if_pos hc] at h
    cases h
  have hb : D.any badDim = false := by
    cases hb : D.any badDim
    · rfl
    · exact absurd (.inr hb) h4
  have hge : ∀ x ∈ D, 0 ≤ x ∧ x ≤ 1048576 := by
    intro x hx
    obtain ⟨i, hi, rfl⟩ := List.getElem_of_mem hx
    rw [← rd_nat D i hi]
    exact good_rd hb i hi
  have he : ints (D.map Int.toNat) = D := by
    clear h h4 hb
    induction D with
    | nil => rfl
    | cons x D ih =>
      have h1 := ih (fun y hy => hge y (List.mem_cons_of_mem _ hy))
      have h2 := hge x List.mem_cons_self
      simp only [ints, List.map_cons] at h1 ⊢
      rw [h1]
      congr 1
      exact Int.toNat_of_nonneg h2.1
  have hel : elemsT D = (((prodN (D.map Int.toNat) : Nat) : Int), 0) ∧ prodN (D.map Int.toNat) ≤ 1048576 := by
    unfold elemsT at h ⊢
    rw [if_neg h4] at h ⊢
    by_cases hz : D.contains 0 = true
    · rw [if_pos hz, prodN_nought _ (by rw [← contains_ints, he]; exact hz)]
      exact ⟨rfl, by omega⟩
    · rw [if_neg hz] at h ⊢
      have h6 : prodLoop D D.length 0 1 = ((prodLoop D D.length 0 1).1, 0) := by rw [← h]
      have h7 := prodLoop_eq D D.length 0 1 _ (by omega) (by omega) (by omega) h6
      simp only [List.drop_zero, Int.one_mul] at h7
      have h8 := prodI_ints (D.map Int.toNat)
      rw [he] at h8
      rw [h6, h7.1, h8]
      exact ⟨rfl, by omega⟩
  refine ⟨he.symm, by simp; omega, fun d => ?_, hel.2, hel.1⟩
  rcases Nat.lt_or_ge d D.length with hd | hd
  · have := hge _ (List.getElem_mem hd)
    simp [List.getD_eq_getElem?_getD, hd]; omega
  · simp [List.getD_eq_getElem?_getD, hd]
def cN (d h c : Nat) : Nat := if c * h < d then c * h else d
def startN (E F C : List Nat) : List Nat := (List.range E.length).map fun i => cN (E.getD i 0) (F.getD i 0) (C.getD i 0)
def partN (E F C : List Nat) : List Nat := (List.range E.length).map fun i => min (F.getD i 0) (E.getD i 0 - cN (E.getD i 0) (F.getD i 0) (C.getD i 0))
structure Box (E F S P : List Nat) : Prop where
  lenS : S.length = E.length
  lenF : F.length = E.length
  lenP : P.length = E.length
  shape : ∀ d, P.getD d 0 ≤ F.getD d 0
  room : ∀ d, S.getD d 0 + P.getD d 0 ≤ E.getD d 0
end Go.Proofs.Ytjbjofmcmjojlab.Pure
end
section
namespace Go.Proofs.Ytjbjofmcmjojlab.Pure
open Go.RowKit Go.Proofs.Ytjbjofmcmjojlab.Wk Go.Proofs.YtjbjofmcmjojlabW.PrintWords Go.Proofs.YtjbjofmcmjojlabW.PrintLast Go.Proofs.YtjbjofmcmjojlabW.PrintMore Go.Proofs.YtjbjofmcmjojlabQ
theorem step_conds {p1 p2 m Z N M x n : Nat} (hZ : 1 ≤ Z) (hm : 1 ≤ m) (h1 : p1 + m ≤ N) (h2 : p2 + m ≤ M) (hx : x = N * Z) (hn : n = M * Z) (hN : N * Z ≤ 65536) (hM : M * Z ≤ 65536) :
    (0 ≤ (p1 : Int) * (Z : Int) ∧ 0 ≤ (p2 : Int) * (Z : Int) ∧ 1 ≤ (m : Int) * (Z : Int) ∧ (p1 : Int) * (Z : Int) + (m : Int) * (Z : Int) ≤ (x : Int) ∧ (p2 : Int) * (Z : Int) + (m : Int) * (Z : Int) ≤ (n : Int) ∧ (p1 : Int) * (Z : Int) + (p2 : Int) * (Z : Int) + (m : Int) * (Z : Int) + (n : Int) ≤ 1000000) := by
  have a1 : (p1 + m) * Z ≤ N * Z := Nat.mul_le_mul_right _ h1
  have a2 : (p2 + m) * Z ≤ M * Z := Nat.mul_le_mul_right _ h2
  have a3 : 1 * 1 ≤ m * Z := Nat.mul_le_mul hm hZ
  rw [Nat.add_mul] at a1 a2
  rw [mul_cast, mul_cast, mul_cast]
  omega
theorem rd_L1_map (l : List (List Nat)) (i : Nat) (h : i < l.length) : rd_L1 (l.map ints) (i : Int) = ints l[i] := by
  simp [rd_L1, List.getD_eq_getElem?_getD, h]
theorem lex_take_length (D : List Nat) (hp : prodN D ≤ 1048576) (hd : ∀ d, d < D.length → 1 ≤ D.getD d 0) (i : Nat) : (lexList (D.take i)).length ≤ 1048576 := by
  rw [lex_length]
  have key : ∀ (D : List Nat) (i : Nat), (∀ d, d < D.length → 1 ≤ D.getD d 0) → prodN (D.take i) ≤ prodN D := by
    intro D
    induction D with
    | nil => intro i _; simp [prodN]
    | cons d D ih =>
      intro i hd
      have h1 := prodN_ge D (fun j hj => by simpa using hd (j + 1) (by simpa using hj))
      cases i with
      | zero =>
        have := prodN_ge (d :: D) hd
        simpa [prodN] using this
      | succ i =>
        simp only [List.take_succ_cons, prodN]
        exact Nat.mul_le_mul_left _ (ih i (fun j hj => by simpa using hd (j + 1) (by simpa using hj)))
  have := key D i hd
  omega
theorem mulLt {a b x y : Nat} (ha : a ≤ x) (hb : b ≤ y) : a * b ≤ x * y := Nat.mul_le_mul ha hb
theorem tuples_l2 (D : List Nat) (h4 : D.length ≤ 4) (hd : ∀ d, D.getD d 0 ≤ 1048576) (x3 : List (List Nat)) (hx : ∀ t ∈ x3, t.length ≤ 4) (x4 i : Nat) (h5 : x4 < D.length) (hi : i < x3.length) {r : List (List Int)} : ∀ (d j : Nat) (acc : List (List Nat)), D.getD x4 0 - j = d → j ≤ D.getD x4 0 → acc.length + d ≤ 1048576 * 1048576 →
    Ev (fun k => slabvaultref13_tuples.l1 k (ints D) (x3.map ints) x4 ((acc ++ (List.range' j d).map fun a => x3[i] ++ [a]).map ints) (wrap64 ((i : Int) + 1))) r →
    Ev (fun k => slabvaultref13_tuples.l2 k (ints D) (x3.map ints) x4 (acc.map ints) i j) r := by
  have l1 := ints_length D
  have l3 : (x3.map ints).length = x3.length := by simp
  have hlen := hx _ (List.getElem_mem hi)
  intro d
  induction d with
  | zero =>
    intro j acc hj hjl hacc hk
    refine Ev.step (fun k => ?_) hk
    simp only [slabvaultref13_tuples.l2]
    rw [if_pos (by omega), if_pos (by omega), rd_ints, if_neg (by omega)]
    simp
  | succ d ih =>
    intro j acc hj hjl hacc hk
    have hdd := hd x4
    refine Ev.step (f := fun k => slabvaultref13_tuples.l2 k (ints D) (x3.map ints) x4 ((acc ++ [x3[i] ++ [j]]).map ints) i ((j + 1 : Nat) : Int)) (fun k => ?_) (ih (j + 1) (acc ++ [x3[i] ++ [j]]) (by omega) (by omega) (by rw [List.length_append, List.length_singleton]; omega) ?_)
    · simp only [slabvaultref13_tuples.l2, Option.bind_some]
      rw [if_pos (by omega), if_pos (by omega), rd_ints, if_pos (by omega), if_pos (by omega), if_pos (by omega), rd_L1_map x3 i hi]
      have e1 : (ints x3[i]).length ≤ 4 := by rw [ints_length]; exact hlen
      have e2 : (acc.map ints).length < 5864062014805 := by rw [List.length_map]; omega
      have e3 : ([] : List Int).length + (ints x3[i]).length < 17592186044416 := by rw [List.length_nil]; omega
      have e4 : ([] ++ ints x3[i] : List Int).length < 17592186044416 := by rw [List.nil_append]; omega
      rw [if_pos e3, if_pos e4, if_pos e2, show wrap64 ((j : Int) + 1) = ((j + 1 : Nat) : Int) by unfold wrap64; omega]
      congr 1
      simp [ints]
    · rw [List.range'_succ] at hk
      simpa using hk
theorem tuples_l1 (D : List Nat) (h4 : D.length ≤ 4) (hd : ∀ d, D.getD d 0 ≤ 1048576) (x3 : List (List Nat)) (hx : ∀ t ∈ x3, t.length ≤ 4) (hl3 : x3.length ≤ 1048576) (x4 : Nat) (h5 : x4 < D.length) {r : List (List Int)} : ∀ (d i : Nat) (acc : List (List Nat)), x3.length - i = d → i ≤ x3.length → acc.length ≤ i * D.getD x4 0 →
    Ev (fun k => slabvaultref13_tuples.l0 k (ints D) ((acc ++ (x3.drop i).flatMap fun s => (List.range (D.getD x4 0)).map fun a => s ++ [a]).map ints) (wrap64 ((x4 : Int) + 1))) r →
    Ev (fun k => slabvaultref13_tuples.l1 k (ints D) (x3.map ints) x4 (acc.map ints) i) r := by
  have l3 : (x3.map ints).length = x3.length := by simp
  intro d
  induction d with
  | zero =>
    intro i acc hi hil hacc hk
    rw [List.drop_eq_nil_of_le (by omega)] at hk
    refine Ev.step (fun k => ?_) hk
    simp only [slabvaultref13_tuples.l1]
    rw [if_neg (by omega)]
    simp
  | succ d ih =>
    intro i acc hi hil hacc hk
    have hlt : i < x3.length := by omega
    have hb1 : i * D.getD x4 0 ≤ 1048576 * 1048576 := mulLt (by omega) (hd x4)
    have hb2 : (i + 1) * D.getD x4 0 ≤ 1048576 * 1048576 := mulLt (by omega) (hd x4)
    rw [Nat.add_mul, Nat.one_mul] at hb2
    refine Ev.step (f := fun k => slabvaultref13_tuples.l2 k (ints D) (x3.map ints) x4 (acc.map ints) i ((0 : Nat) : Int)) (fun k => ?_) (tuples_l2 D h4 hd x3 hx x4 i h5 hlt (D.getD x4 0) 0 acc (by omega) (by omega) (by omega) ?_)
    · simp only [slabvaultref13_tuples.l1]
      rw [if_pos (by omega)]
      rfl
    · rw [show wrap64 ((i : Int) + 1) = ((i + 1 : Nat) : Int) by unfold wrap64; omega]
      refine ih (i + 1) _ (by omega) (by omega) (by rw [List.length_append, List.length_map, List.length_range', Nat.add_mul, Nat.one_mul]; omega) ?_
      rw [List.drop_eq_getElem_cons hlt, List.flatMap_cons, ← List.append_assoc] at hk
      simpa only [List.range_eq_range'] using hk
theorem tuples_l0 (D : List Nat) (h4 : D.length ≤ 4) (hd : ∀ d, D.getD d 0 ≤ 1048576) (h1 : ∀ d, d < D.length → 1 ≤ D.getD d 0) (hp : prodN D ≤ 1048576) : ∀ (d i : Nat), D.length - i = d → i ≤ D.length →
    Ev (fun k => slabvaultref13_tuples.l0 k (ints D) ((lexList (D.take i)).map ints) i) ((lexList D).map ints) := by
  have l1 := ints_length D
  intro d
  induction d with
  | zero =>
    intro i hi hil
    rw [List.take_of_length_le (by omega)]
    refine Ev.step (f := fun _ => some ((lexList D).map ints)) (fun k => ?_) (Ev.now _)
    simp only [slabvaultref13_tuples.l0]
    rw [if_neg (by omega)]
  | succ d ih =>
    intro i hi hil
    have hlt : i < D.length := by omega
    refine Ev.step (f := fun k => slabvaultref13_tuples.l1 k (ints D) ((lexList (D.take i)).map ints) i (([] : List (List Nat)).map ints) ((0 : Nat) : Int)) (fun k => ?_) (tuples_l1 D h4 hd (lexList (D.take i)) (fun t ht => by have := (lex_mem _ _ ht).1; simp at this; omega) (lex_take_length D hp h1 i) i hlt (lexList (D.take i)).length 0 [] (by omega) (by omega) (by simp) ?_)
    · simp only [slabvaultref13_tuples.l0]
      rw [if_pos (by omega)]
      rfl
    · rw [show wrap64 ((i : Int) + 1) = ((i + 1 : Nat) : Int) by unfold wrap64; omega]
      have e : ([] ++ ((lexList (D.take i)).drop 0).flatMap fun s => (List.range (D.getD i 0)).map fun a => s ++ [a]) = lexList (D.take (i + 1)) := by
        rw [List.take_succ_eq_append_getElem hlt, lex_snoc]
        simp [List.getD_eq_getElem?_getD, hlt]
      rw [e]
      exact ih (i + 1) (by omega) (by omega)
theorem tuples_ev (D : List Nat) (h4 : D.length ≤ 4) (hd : ∀ d, D.getD d 0 ≤ 1048576) (h1 : ∀ d, d < D.length → 1 ≤ D.getD d 0) (hp : prodN D ≤ 1048576) : Ev (fun k => slabvaultref13_tuples.f k (ints D)) ((lexList D).map ints) := by
  unfold slabvaultref13_tuples.f
  have := tuples_l0 D h4 hd h1 hp D.length 0 (by omega) (by omega)
  simpa [lexList, ints] using this
end Go.Proofs.Ytjbjofmcmjojlab.Pure
end
section
namespace Go.Proofs.Ytjbjofmcmjojlab.Pure
open Go.RowKit Go.Proofs.Ytjbjofmcmjojlab.Wk Go.Proofs.YtjbjofmcmjojlabW.PrintWords Go.Proofs.YtjbjofmcmjojlabW.PrintLast Go.Proofs.YtjbjofmcmjojlabW.PrintMore Go.Proofs.YtjbjofmcmjojlabQ
theorem piece {p Z N x : Nat} (hZ : 1 ≤ Z) (hp : p < N) (hx : x = N * Z) (hN : N * Z ≤ 65536) (X : List Int) (hX : X.length = x) :
    0 ≤ wrap64 ((p : Int) * (Z : Int)) ∧ wrap64 ((p : Int) * (Z : Int)) ≤ wrap64 (wrap64 ((p : Int) * (Z : Int)) + (Z : Int)) ∧ wrap64 (wrap64 ((p : Int) * (Z : Int)) + (Z : Int)) ≤ (X.length : Int) ∧ (X.take (wrap64 (wrap64 ((p : Int) * (Z : Int)) + (Z : Int))).toNat).drop (wrap64 ((p : Int) * (Z : Int))).toNat = (X.drop (p * Z)).take Z := by
  have a1 : (p + 1) * Z ≤ N * Z := Nat.mul_le_mul_right _ hp
  rw [Nat.add_mul, Nat.one_mul] at a1
  rw [mul_cast]
  generalize p * Z = q at *
  have e1 : wrap64 ((q : Nat) : Int) = (q : Int) := by unfold wrap64; omega
  have e2 : wrap64 ((q : Int) + (Z : Int)) = ((q + Z : Nat) : Int) := by unfold wrap64; omega
  rw [e1, e2]
  refine ⟨by omega, by omega, by omega, ?_⟩
  rw [Int.toNat_natCast, Int.toNat_natCast, List.drop_take, show q + Z - q = Z by omega]
end Go.Proofs.Ytjbjofmcmjojlab.Pure
end
section
namespace Go.Proofs.Ytjbjofmcmjojlab.Pure
open Go.RowKit Go.Proofs.Ytjbjofmcmjojlab.Wk Go.Proofs.YtjbjofmcmjojlabW.PrintWords Go.Proofs.YtjbjofmcmjojlabW.PrintLast Go.Proofs.YtjbjofmcmjojlabW.PrintMore Go.Proofs.YtjbjofmcmjojlabQ
def sizedT (z n m : Int) : Int := if z < 1 ∨ 256 < z then 2 else if 65536 < n * z ∨ 65536 < m * z then 3 else 0
theorem wrap_size {n z : Int} (h0 : 0 ≤ n) (h1 : n ≤ 1048576) (hz : 1 ≤ z) (hz2 : z ≤ 256) : wrap64 (n * z) = n * z := by
  have a1 : 0 ≤ n * z := Int.mul_nonneg h0 (by omega)
  have a2 : n * z ≤ 1048576 * 256 := Int.mul_le_mul h1 hz2 (by omega) (by omega)
  generalize n * z = q at *
  unfold wrap64; omega
theorem sized_ev {D H : List Int} {E F : List Nat} (hD : Ext D E) (hH : Ext H F) (z : Int) : Ev (fun k => grid_sized.f k z [D, H]) (sizedT z (prodN E : Nat) (prodN F : Nat)) := by
  have r0 : rd_L1 [D, H] 0 = D := rfl
  have r1 : rd_L1 [D, H] 1 = H := rfl
  have two : ∀ k, grid_sized.j0 (k + 1) z [D, H] true = some 2 := fun k => by simp only [grid_sized.j0, if_true]
  unfold sizedT
  by_cases h1 : z < 1
  · rw [if_pos (.inl h1)]
    refine Ev.congr (f := fun k => grid_sized.j0 k z [D, H] true) (fun k => ?_) (Ev.step two (Ev.now _))
    unfold grid_sized.f
    rw [if_pos h1]
  by_cases h2 : 256 < z
  · rw [if_pos (.inr h2)]
    refine Ev.congr (f := fun k => grid_sized.j0 k z [D, H] true) (fun k => ?_) (Ev.step two (Ev.now _))
    unfold grid_sized.f
    rw [if_neg h1, decide_eq_true h2]
  rw [if_neg (by rintro (h | h) <;> contradiction)]
  have hwD := wrap_size (n := ((prodN E : Nat) : Int)) (by omega) (by have := hD.prod; omega) (show 1 ≤ z by omega) (show z ≤ 256 by omega)
  have hwH := wrap_size (n := ((prodN F : Nat) : Int)) (by omega) (by have := hH.prod; omega) (show 1 ≤ z by omega) (show z ≤ 256 by omega)
  have hD1 : (elemsT D).1 = ((prodN E : Nat) : Int) := by rw [hD.elems]
  have hH1 : (elemsT H).1 = ((prodN F : Nat) : Int) := by rw [hH.elems]
  refine Ev.congr (f := fun k => grid_sized.j0 k z [D, H] false) (fun k => ?_) (Ev.step (f := fun k => grid_sized.l0 k z [D, H] 2 0) (fun k => ?_) ?_)
  · unfold grid_sized.f
    rw [if_neg h1, decide_eq_false h2]
  · simp only [grid_sized.j0, if_neg (show ¬ (false = true) by decide), List.length_cons, List.length_nil]
    rfl
  have e1 : wrap64 ((0 : Int) + 1) = 1 := by unfold wrap64; omega
  have e2 : wrap64 ((1 : Int) + 1) = 2 := by unfold wrap64; omega
  have s0 : ∀ k, grid_sized.l0 (k + 1) z [D, H] 2 0 = if ((prodN E : Nat) : Int) * z > 65536 then some 3 else grid_sized.l0 k z [D, H] 2 1 := by
    intro k
    simp only [grid_sized.l0]
    rw [if_pos (by omega), if_pos (by omega), if_pos (by simp), r0, elements_eq]
    simp only [Option.bind_some]
    rw [hD1, hwD, e1]
  have s1 : ∀ k, grid_sized.l0 (k + 1) z [D, H] 2 1 = if ((prodN F : Nat) : Int) * z > 65536 then some 3 else grid_sized.l0 k z [D, H] 2 2 := by
    intro k
    simp only [grid_sized.l0]
    rw [if_pos (by omega), if_pos (by omega), if_pos (by simp), r1, elements_eq]
    simp only [Option.bind_some]
    rw [hH1, hwH, e2]
  have s2 : ∀ k, grid_sized.l0 (k + 1) z [D, H] 2 2 = some 0 := by
    intro k
    simp only [grid_sized.l0]
    rw [if_neg (by omega)]
  by_cases c1 : 65536 < ((prodN E : Nat) : Int) * z
  · rw [if_pos (.inl c1)]
    exact Ev.step (fun k => (s0 k).trans (if_pos c1)) (Ev.now _)
  · by_cases c2 : 65536 < ((prodN F : Nat) : Int) * z
    · rw [if_pos (.inr c2)]
      exact Ev.step (fun k => (s0 k).trans (if_neg c1)) (Ev.step (fun k => (s1 k).trans (if_pos c2)) (Ev.now _))
    · rw [if_neg (by rintro (h | h) <;> contradiction)]
      exact Ev.step (fun k => (s0 k).trans (if_neg c1)) (Ev.step (fun k => (s1 k).trans (if_neg c2)) (Ev.step s2 (Ev.now _)))
def lastT (D H c : List Int) (z x l : Int) (whole : Bool) : Int := if x = (elemsT D).1 * z ∧ l = (if whole = true then (elemsT H).1 * z else z) ∧ rightT c D.length = true then 0 else 2
def errT (D H c : List Int) (z x l : Int) (whole : Bool) : Int := if fitT D H = 0 then (if sizedT z (elemsT D).1 (elemsT H).1 = 0 then lastT D H c z x l whole else sizedT z (elemsT D).1 (elemsT H).1) else fitT D H
structure Okay (D H c : List Int) (z : Int) (x l : Nat) (whole : Bool) (E F C : List Nat) (Z : Nat) : Prop where
  extD : Ext D E
  extH : Ext H F
  lenF : F.length = E.length
  one : ∀ d, d < F.length → 1 ≤ F.getD d 0
  lenC : C.length = E.length
  co : c = ints C
  size : z = (Z : Int)
  min : 1 ≤ Z ∧ Z ≤ 256
  bigE : prodN E * Z ≤ 65536
  bigF : prodN F * Z ≤ 65536
  lenX : x = prodN E * Z
  lenL : l = if whole = true then prodN F * Z else Z
end Go.Proofs.Ytjbjofmcmjojlab.Pure
end
section
namespace Go.Proofs.Ytjbjofmcmjojlab.Pure
open Go.RowKit Go.Proofs.Ytjbjofmcmjojlab.Wk Go.Proofs.YtjbjofmcmjojlabW.PrintWords Go.Proofs.YtjbjofmcmjojlabW.PrintLast Go.Proofs.YtjbjofmcmjojlabW.PrintMore Go.Proofs.YtjbjofmcmjojlabQ
def cutList (E F C : List Nat) : List (Nat × Nat) := (lexList (partN E F C)).map fun t => (placeN F t, placeN E (addN t (startN E F C)))
def pasteList (E F C : List Nat) : List (Nat × Nat) := (lexList (partN E F C)).map fun t => (placeN E (addN t (startN E F C)), placeN F t)
def cutR (D H c : List Int) (z : Int) (X L : List Int) : List Int := puts z.toNat X (repB (prodN (H.map Int.toNat)) L) (cutList (D.map Int.toNat) (H.map Int.toNat) (c.map Int.toNat))
def pasteR (D H c : List Int) (z : Int) (Y X : List Int) : List Int := puts z.toNat X Y (pasteList (D.map Int.toNat) (H.map Int.toNat) (c.map Int.toNat))
def cutT (X : List Int) (z : Int) (D H c L : List Int) : List Int × Int := if errT D H c z X.length L.length false = 0 then (cutR D H c z X L, 0) else ([], errT D H c z X.length L.length false)
def pasteT (Y : List Int) (z : Int) (D H c X : List Int) : List Int × Int := if errT D H c z Y.length X.length true = 0 then (pasteR D H c z Y X, 0) else ([], errT D H c z Y.length X.length true)
theorem sized_wraps {D H : List Int} {E F : List Nat} (hD : Ext D E) (hH : Ext H F) {z : Int} (h : sizedT z (elemsT D).1 (elemsT H).1 = 0) : wrap64 ((elemsT D).1 * z) = (elemsT D).1 * z ∧ wrap64 ((elemsT H).1 * z) = (elemsT H).1 * z := by
  have hD1 : (elemsT D).1 = ((prodN E : Nat) : Int) := by rw [hD.elems]
  have hH1 : (elemsT H).1 = ((prodN F : Nat) : Int) := by rw [hH.elems]
  have hz : ¬ (z < 1 ∨ 256 < z) := by
    intro hz
    unfold sizedT at h
    rw [if_pos hz] at h
    exact absurd h (by decide)
  have p1 := hD.prod
  have p2 := hH.prod
  rw [hD1, hH1]
  exact ⟨wrap_size (by omega) (by omega) (by omega) (by omega), wrap_size (by omega) (by omega) (by omega) (by omega)⟩
theorem refused {D H c : List Int} {z x l : Int} {whole : Bool} (h : ¬ errT D H c z x l whole = 0) : (¬ fitT D H = 0 ∧ errT D H c z x l whole = fitT D H) ∨ (fitT D H = 0 ∧ ¬ sizedT z (elemsT D).1 (elemsT H).1 = 0 ∧ errT D H c z x l whole = sizedT z (elemsT D).1 (elemsT H).1) ∨
    (fitT D H = 0 ∧ sizedT z (elemsT D).1 (elemsT H).1 = 0 ∧ ¬ (x = (elemsT D).1 * z ∧ l = (if whole = true then (elemsT H).1 * z else z) ∧ rightT c D.length = true) ∧ errT D H c z x l whole = 2) := by
  unfold errT at h ⊢
  by_cases h0 : fitT D H = 0
  case neg => rw [if_neg h0]; exact .inl ⟨h0, rfl⟩
  rw [if_pos h0] at h ⊢
  by_cases hs : sizedT z (elemsT D).1 (elemsT H).1 = 0
  case neg => rw [if_neg hs]; exact .inr (.inl ⟨h0, hs, rfl⟩)
  rw [if_pos hs] at h ⊢
  unfold lastT at h ⊢
  by_cases hl : x = (elemsT D).1 * z ∧ l = (if whole = true then (elemsT H).1 * z else z) ∧ rightT c D.length = true
  case pos => rw [if_pos hl] at h; exact absurd rfl h
  rw [if_neg hl]
  exact .inr (.inr ⟨h0, hs, hl, rfl⟩)
end Go.Proofs.Ytjbjofmcmjojlab.Pure
end
section
namespace Go.Proofs.Ytjbjofmcmjojlab.Pure
open Go.RowKit Go.Proofs.Ytjbjofmcmjojlab.Wk Go.Proofs.YtjbjofmcmjojlabW.PrintWords Go.Proofs.YtjbjofmcmjojlabW.PrintLast Go.Proofs.YtjbjofmcmjojlabW.PrintMore Go.Proofs.YtjbjofmcmjojlabQ
def bothN (E F : List Nat) : List Nat := List.zipWith min E F
theorem both_ints : ∀ E F : List Nat, grid_both (ints E) (ints F) = ints (bothN E F)
  | [], F => by simp [grid_both, bothN, ints]
  | e :: E, [] => by simp [grid_both, bothN, ints]
  | e :: E, f :: F => by
    have ih := both_ints E F
    simp only [grid_both, bothN, ints, List.map_cons, List.zipWith_cons_cons] at ih ⊢
    rw [ih]
    congr 1
    show min (e : Int) (f : Int) = ((min e f : Nat) : Int)
    omega
theorem both_getD (E F : List Nat) (h : F.length = E.length) (d : Nat) : (bothN E F).getD d 0 = min (E.getD d 0) (F.getD d 0) := by
  rcases Nat.lt_or_ge d E.length with hd | hd
  · simp [bothN, List.getD_eq_getElem?_getD, List.getElem?_zipWith, hd, show d < F.length by omega]
  · simp [bothN, List.getD_eq_getElem?_getD, List.getElem?_zipWith, hd]
theorem inside_both : ∀ (E F t : List Nat), F.length = E.length → t.length = F.length → (∀ d, d < F.length → t.getD d 0 < F.getD d 0) → insideB E t = insideB (bothN E F) t
  | [], [], [], _, _, _ => rfl
  | e :: E, f :: F, x :: t, h1, h2, h3 => by
    have ih := inside_both E F t (by simpa using h1) (by simpa using h2) (fun d hd => by simpa using h3 (d + 1) (by simpa using hd))
    have h0 : x < f := by simpa using h3 0 (by simp)
    simp only [bothN, List.zipWith_cons_cons, insideB] at ih ⊢
    rw [ih]
    congr 1
    rw [decide_eq_decide]
    omega
  | [], [], x :: t, _, h2, _ => by simp at h2
  | [], f :: F, _, h1, _, _ => by simp at h1
  | e :: E, [], _, h1, _, _ => by simp at h1
  | e :: E, f :: F, [], _, h2, _ => by simp at h2
theorem both_list (E F : List Nat) (h : F.length = E.length) : (lexList F).filter (insideB E) = lexList (bothN E F) := by
  rw [← lex_inside F (bothN E F) (by simp [bothN, h]) (fun d => by rw [both_getD E F h]; omega)]
  apply List.filter_congr
  intro t ht
  have hm := lex_mem F t ht
  exact inside_both E F t h hm.1 hm.2
theorem both_mem {E F t : List Nat} (h : F.length = E.length) (ht : t ∈ lexList (bothN E F)) : t ∈ lexList E ∧ t ∈ lexList F := by
  have hm := lex_mem _ t ht
  have hl : (bothN E F).length = E.length := by simp [bothN, h]
  refine ⟨lex_of E t (by omega) (fun d hd => ?_), lex_of F t (by omega) (fun d hd => ?_)⟩
  · have := hm.2 d (by omega)
    rw [both_getD E F h] at this
    omega
  · have := hm.2 d (by omega)
    rw [both_getD E F h] at this
    omega
theorem res_fold {D H : List Int} {E F : List Nat} (hD : Ext D E) (hH : Ext H F) (h : F.length = E.length) (Z : Nat) (hZ : 1 ≤ Z) (X O : List Int) (hX : X.length = prodN E * Z) (hO : O.length = prodN F * Z) (hN : prodN E * Z ≤ 65536) (hM : prodN F * Z ≤ 65536) (n : Nat) (hn : n = O.length) :
    Ev (fun k => grid_resFold k D (Z : Int) H X n O (rowsOf (ints (bothN E F)))) (puts Z X O ((lexList (bothN E F)).map fun t => (placeN F t, placeN E t))) := by
  unfold grid_resFold
  rw [hD.eq, hH.eq]
  have hl : (bothN E F).length = E.length := by simp [bothN, h]
  refine rows_fold (fun k => grid_resStep k (ints E) (Z : Int) (ints F) X n) Z (prodN F) (prodN E) X (placeN F) (placeN E) (bothN E F) hX (fun s a hs => ⟨by simpa using placeN_last F s a 0 (by omega), by simpa using placeN_last E s a 0 (by omega)⟩) (fun t ht => ⟨valid_place F t (both_mem h ht).2, valid_place E t (both_mem h ht).1⟩) (fun O' t m hO' hm ht h1 h2 => ?_) O hO
  have hmem := both_mem h ht
  unfold grid_resStep
  refine Ev.bind (place_ev E t hD.len hmem.1 hD.prod) (Ev.bind (place_ev F t hH.len hmem.2 hH.prod) ?_)
  have hc := step_conds (p1 := placeN E t) (p2 := placeN F t) hZ hm h2 h1 hX (hn.trans hO) hN hM
  simp only [if_pos hc]
  rw [mul_cast, mul_cast, mul_cast]
  simp only [Int.toNat_natCast]
  exact Ev.now _
def resR (D H : List Int) (z : Int) (X L : List Int) : List Int := puts z.toNat X (repB (prodN (H.map Int.toNat)) L) ((lexList (bothN (D.map Int.toNat) (H.map Int.toNat))).map fun t => (placeN (H.map Int.toNat) t, placeN (D.map Int.toNat) t))
def resT (X : List Int) (z : Int) (D H L : List Int) : List Int × Int :=
  if (elemsT D).2 = 0 then (if (elemsT H).2 = 0 then (if D.length = H.length then (if sizedT z (elemsT D).1 (elemsT H).1 = 0 then (if (X.length : Int) = (elemsT D).1 * z ∧ (L.length : Int) = z then (resR D H z X L, 0) else ([], 2)) else ([], sizedT z (elemsT D).1 (elemsT H).1)) else ([], 2)) else ([], (elemsT H).2)) else ([], (elemsT D).2)
structure OkayR (D H : List Int) (z : Int) (x l : Nat) (E F : List Nat) (Z : Nat) : Prop where
  extD : Ext D E
  extH : Ext H F
  lenF : F.length = E.length
  size : z = (Z : Int)
  min : 1 ≤ Z ∧ Z ≤ 256
  bigE : prodN E * Z ≤ 65536
  bigF : prodN F * Z ≤ 65536
  lenX : x = prodN E * Z
  lenL : l = Z
theorem okayR_of {D H : List Int} {z : Int} {x l : Nat} (h1 : (elemsT D).2 = 0) (h2 : (elemsT H).2 = 0) (h3 : D.length = H.length) (hs : sizedT z (elemsT D).1 (elemsT H).1 = 0) (hl : (x : Int) = (elemsT D).1 * z ∧ (l : Int) = z) : OkayR D H z x l (D.map Int.toNat) (H.map Int.toNat) z.toNat := by
  have hD := ext_of h1
  have hH := ext_of h2
  have hD1 : (elemsT D).1 = ((prodN (D.map Int.toNat) : Nat) : Int) := by rw [hD.elems]
  have hH1 : (elemsT H).1 = ((prodN (H.map Int.toNat) : Nat) : Int) := by rw [hH.elems]
  unfold sizedT at hs
  by_cases hz : z < 1 ∨ 256 < z
  case pos => rw [if_pos hz] at hs; exact absurd hs (by decide)
  rw [if_neg hz] at hs
  by_cases hb : 65536 < (elemsT D).1 * z ∨ 65536 < (elemsT H).1 * z
  case pos => rw [if_pos hb] at hs; exact absurd hs (by decide)
  clear hs
  have hzz : z = (z.toNat : Int) := by omega
  have hz1 : 1 ≤ z.toNat ∧ z.toNat ≤ 256 := by omega
  rw [hD1, hH1, hzz, mul_cast, mul_cast] at hb
  obtain ⟨l1, l2⟩ := hl
  rw [hD1, hzz, mul_cast] at l1
  exact ⟨hD, hH, by simp [h3], hzz, hz1, by omega, by omega, Int.ofNat_inj.1 l1, by omega⟩
theorem resize_ev (X : List Int) (z : Int) (D H L : List Int) : Ev (fun k => grid_Resize.f k X z D H L) (resT X z D H L) := by
  unfold grid_Resize.f resT
  rw [elements_eq, elements_eq]
  simp only [Option.bind_some]
  by_cases h1 : (elemsT D).2 = 0
  case neg =>
    simp only [if_neg h1]
    exact Ev.now _
  by_cases h2 : (elemsT H).2 = 0
  case neg =>
    simp only [if_pos h1, if_neg h2]
    exact Ev.now _
  by_cases h3 : D.length = H.length
  case neg =>
    simp only [if_pos h1, if_pos h2, if_neg h3]
    exact Ev.now _
  simp only [if_pos h1, if_pos h2, if_pos h3]
  have hD := ext_of h1
  have hH := ext_of h2
  have hD1 : (elemsT D).1 = ((prodN (D.map Int.toNat) : Nat) : Int) := by rw [hD.elems]
  have hH1 : (elemsT H).1 = ((prodN (H.map Int.toNat) : Nat) : Int) := by rw [hH.elems]
  have hsz := sized_ev hD hH z
  rw [← hD1, ← hH1] at hsz
  refine Ev.bind hsz ?_
  by_cases hs : sizedT z (elemsT D).1 (elemsT H).1 = 0
  case neg =>
    simp only [if_neg hs]
    exact Ev.now _
  have hw := sized_wraps hD hH hs
  simp only [if_pos hs]
  rw [hw.1]
  by_cases hl : (X.length : Int) = (elemsT D).1 * z ∧ (L.length : Int) = z
  case neg =>
    simp only [if_neg hl]
    exact Ev.now _
  simp only [if_pos hl]
  have ho := okayR_of h1 h2 h3 hs hl
  have hrep : bytes_Repeat.f L (elemsT H).1 = some (repB (prodN (H.map Int.toNat)) L) := by
    unfold bytes_Repeat.f
    rw [hH1]
    have hl := ho.lenL
    have b1 := ho.bigF
    have b2 := ho.min
    have b3 := ho.extH.prod
    rw [Nat.mul_comm] at b1
    rw [if_pos ⟨by omega, by omega, by rw [hl, Int.toNat_natCast]; exact b1, by omega, by omega⟩, Int.toNat_natCast]
  have hcl : slices_Clone_int_int.f D = some D := by
    unfold slices_Clone_int_int.f
    have b1 : D.length ≤ 4 := by rw [ho.extD.eq, ints_length]; exact ho.extD.len
    rw [if_pos (by omega)]
  rw [hrep, hcl]
  simp only [Option.bind_some]
  have hboth : grid_both D H = ints (bothN (D.map Int.toNat) (H.map Int.toNat)) := by
    rw [← both_ints, ← ho.extD.eq, ← ho.extH.eq]
  have hcond : (grid_both D H).length ≤ 4 ∧ ∀ x ∈ grid_both D H, 0 ≤ x ∧ x ≤ 1048576 := by
    rw [hboth]
    refine ⟨by rw [ints_length]; have := ho.extD.len; simp only [bothN, List.length_zipWith]; omega, fun x hx => ?_⟩
    obtain ⟨n, hn, rfl⟩ := List.mem_map.1 hx
    obtain ⟨i, hi, rfl⟩ := List.getElem_of_mem hn
    have g1 := both_getD _ _ ho.lenF i
    have g2 := ho.extD.dim i
    have g3 : (bothN (D.map Int.toNat) (H.map Int.toNat))[i] = (bothN (D.map Int.toNat) (H.map Int.toNat)).getD i 0 := by simp [List.getD_eq_getElem?_getD, hi]
    have g4 : (bothN (D.map Int.toNat) (H.map Int.toNat))[i] ≤ (D.map Int.toNat).getD i 0 := by omega
    exact ⟨Int.natCast_nonneg _, Int.ofNat_le.2 (Nat.le_trans g4 g2)⟩
  simp only [if_pos hcond]
  have hlen : (repB (prodN (H.map Int.toNat)) L).length = prodN (H.map Int.toNat) * z.toNat := by
    rw [repB_length, ho.lenL]
  have hfold := res_fold ho.extD ho.extH ho.lenF z.toNat ho.min.1 X (repB (prodN (H.map Int.toNat)) L) ho.lenX hlen ho.bigE ho.bigF (repB (prodN (H.map Int.toNat)) L).length rfl
  rw [← ho.size, ← hboth] at hfold
  exact Ev.bind hfold (Ev.now _)
theorem res_ref_in {D : List Int} {E : List Nat} (hD : Ext D E) (X : List Int) (z : Int) (L acc : List Int) (l : List (List Nat)) (i : Nat) (hlt : i < l.length) (t : List Nat) (ht : l[i] = t) (hlen : t.length = E.length) {r : List Int × Int} : ∀ (d j : Nat) (b : Bool), E.length - j = d → j ≤ E.length →
    Ev (fun k => slabvaultref13_Resize.l1 k X z D L acc (l.map ints) i (b && insideB (E.drop j) (t.drop j)) (E.length : Int)) r →
    Ev (fun k => slabvaultref13_Resize.l1 k X z D L acc (l.map ints) i b j) r := by
  have lm : (l.map ints).length = l.length := List.length_map ..
  have lD : D.length = E.length := by rw [hD.eq, ints_length]
  have k1 : 0 ≤ (i : Int) := Int.natCast_nonneg _
  have k2 : (i : Int) < ((l.map ints).length : Int) := by rw [lm]; exact Int.ofNat_lt.2 hlt
  intro d
  induction d with
  | zero =>
    intro j b hd hj hk
    have hjl : j = E.length := by omega
    subst hjl
    rw [List.drop_eq_nil_of_le (Nat.le_refl _)] at hk
    simpa [insideB] using hk
  | succ d ih =>
    intro j b hd hj hk
    have hjl : j < E.length := by omega
    have k3 : (j : Int) < (D.length : Int) := by omega
    have k4 : 0 ≤ (j : Int) := Int.natCast_nonneg _
    have k5 : (j : Int) < ((ints t).length : Int) := by rw [ints_length]; omega
    have h4 := hD.len
    have hj1 : E.length - (j + 1) = d := by omega
    have hj2 : j + 1 ≤ E.length := by omega
    rw [getD_drop E j hjl, getD_drop t j (by omega)] at hk
    have k6 : wrap64 ((j : Int) + 1) = ((j + 1 : Nat) : Int) := wrap_up hjl (by omega)
    cases b with
    | false =>
      refine Ev.step (f := fun k => slabvaultref13_Resize.l1 k X z D L acc (l.map ints) i false ((j + 1 : Nat) : Int)) (fun k => ?_) (ih (j + 1) false hj1 hj2 ?_)
      · simp only [slabvaultref13_Resize.l1]
        rw [if_pos k3]
        (try simp only [Bool.false_eq_true, if_false])
        rw [k6]
      · simpa only [Bool.false_and] using hk
    | true =>
      refine Ev.step (f := fun k => slabvaultref13_Resize.l1 k X z D L acc (l.map ints) i (decide (t.getD j 0 < E.getD j 0)) ((j + 1 : Nat) : Int)) (fun k => ?_) (ih (j + 1) _ hj1 hj2 ?_)
      · simp only [slabvaultref13_Resize.l1]
        have e : decide (rd (ints t) (j : Int) < rd D (j : Int)) = decide (t.getD j 0 < E.getD j 0) := by
          rw [hD.eq, rd_ints, rd_ints, decide_eq_decide]
          exact Int.ofNat_lt
        rw [if_pos k3]
        (try simp only [if_true])
        rw [if_pos k1, if_pos k2, if_pos k4, rd_L1_map _ i hlt, ht, if_pos k5, e, k6]
      · simpa only [insideB, Bool.true_and] using hk
theorem res_ref_round {D : List Int} {E F : List Nat} (hD : Ext D E) (hlF : F.length = E.length) (Z : Nat) (hZ : 1 ≤ Z ∧ Z ≤ 256) (X L : List Int) (hX : X.length = prodN E * Z) (hL : L.length = Z) (hN : prodN E * Z ≤ 65536)
    (l : List (List Nat)) (i : Nat) (hlt : i < l.length) (hl : l.length ≤ 1048576) (t : List Nat) (ht : l[i] = t) (htm : t ∈ lexList F) (acc : List Int) (hacc : acc.length ≤ 1048576 * 256) {r : List Int × Int}
    (hk : Ev (fun k => slabvaultref13_Resize.l0 k X (Z : Int) D L (acc ++ (if insideB E t = true then (X.drop (placeN E t * Z)).take Z else L)) (l.map ints) ((i + 1 : Nat) : Int)) r) :
    Ev (fun k => slabvaultref13_Resize.l0 k X (Z : Int) D L acc (l.map ints) i) r := by
  have lm : (l.map ints).length = l.length := List.length_map ..
  have lD : D.length = E.length := by rw [hD.eq, ints_length]
  have hmF := lex_mem F t htm
  have k1 : 0 ≤ (i : Int) := Int.natCast_nonneg _
  have k2 : (i : Int) < ((l.map ints).length : Int) := by rw [lm]; exact Int.ofNat_lt.2 hlt
  have k3 : ¬ ((E.length : Nat) : Int) < (D.length : Int) := by rw [lD]; omega
  have hwrap : wrap64 ((i : Int) + 1) = ((i + 1 : Nat) : Int) := wrap_up hlt (by clear hk hX hN lm k1 k2 k3; omega)
  refine Ev.step (f := fun k => slabvaultref13_Resize.l1 k X (Z : Int) D L acc (l.map ints) i true ((0 : Nat) : Int)) (fun k => ?_) (res_ref_in hD X (Z : Int) L acc l i hlt t ht (hmF.1.trans hlF) E.length 0 true rfl (Nat.zero_le _) ?_)
  · simp only [slabvaultref13_Resize.l0]
    rw [if_pos k2]
    rfl
  rw [Bool.true_and, List.drop_zero, List.drop_zero]
  by_cases c : insideB E t = true
  · rw [if_pos c] at hk
    rw [c]
    have hin : t ∈ lexList (bothN E F) := by
      rw [← both_list E F hlF]
      exact List.mem_filter.2 ⟨htm, c⟩
    have hmem := both_mem hlF hin
    have hpl := valid_place E _ hmem.1
    have hpc := piece hZ.1 hpl rfl hN X hX
    have hblk := block_length (Z := Z) (m := 1) hX (show placeN E t + 1 ≤ prodN E from hpl)
    rw [Nat.one_mul] at hblk
    have hlen : acc.length + ((X.drop (placeN E t * Z)).take Z).length < 140737488355328 := by
      rw [hblk]
      clear hblk hpc hpl hmem hin hwrap hk hX hN k1 k2 k3
      omega
    refine Ev.step (f := fun k => (slabvaultref12_Place.f k D (ints t)).bind fun p => (if 0 ≤ (wrap64 (p * (Z : Int))) then (if (wrap64 (p * (Z : Int))) ≤ (wrap64 ((wrap64 (p * (Z : Int))) + (Z : Int))) then (if (wrap64 ((wrap64 (p * (Z : Int))) + (Z : Int))) ≤ (X.length : Int) then (if acc.length + ((X.take ((wrap64 ((wrap64 (p * (Z : Int))) + (Z : Int))) : Int).toNat).drop ((wrap64 (p * (Z : Int))) : Int).toNat).length < 140737488355328 then (slabvaultref13_Resize.l0 k X (Z : Int) D L (acc ++ ((X.take ((wrap64 ((wrap64 (p * (Z : Int))) + (Z : Int))) : Int).toNat).drop ((wrap64 (p * (Z : Int))) : Int).toNat)) (l.map ints) ((i + 1 : Nat) : Int)) else (none)) else (none)) else (none)) else (none))) (fun k => ?_) ?_
    · simp only [slabvaultref13_Resize.l1]
      rw [if_neg k3]
      (try simp only [if_true])
      rw [if_pos k1, if_pos k2, rd_L1_map _ i hlt, ht, hwrap]
    rw [hD.eq] at hk ⊢
    refine Ev.bind (refPlace_ev E _ hD.len hmem.1 hD.prod) ?_
    simp only [if_pos hpc.1, if_pos hpc.2.1, if_pos hpc.2.2.1, hpc.2.2.2, if_pos hlen]
    exact hk
  · rw [if_neg c] at hk
    rw [Bool.eq_false_iff.2 c]
    have hlen : acc.length + L.length < 140737488355328 := by
      rw [hL]
      clear hwrap hk hX hN k1 k2 k3
      omega
    refine Ev.step (fun k => ?_) hk
    simp only [slabvaultref13_Resize.l1]
    rw [if_neg k3]
    (try simp only [Bool.false_eq_true, if_false])
    rw [if_pos hlen, hwrap]
theorem res_ref_loop {D : List Int} {E F : List Nat} (hD : Ext D E) (hlF : F.length = E.length) (Z : Nat) (hZ : 1 ≤ Z ∧ Z ≤ 256) (X L : List Int) (hX : X.length = prodN E * Z) (hL : L.length = Z) (hN : prodN E * Z ≤ 65536) (l : List (List Nat)) (hl : l.length ≤ 1048576) (hlm : ∀ t ∈ l, t ∈ lexList F) : ∀ (d i : Nat) (acc : List Int), l.length - i = d → i ≤ l.length → acc.length = i * Z →
    Ev (fun k => slabvaultref13_Resize.l0 k X (Z : Int) D L acc (l.map ints) i) (acc ++ (l.drop i).flatMap fun t => if insideB E t = true then (X.drop (placeN E t * Z)).take Z else L, 0) := by
  have lm : (l.map ints).length = l.length := List.length_map ..
  intro d
  induction d with
  | zero =>
    intro i acc hi hil hacc
    rw [List.drop_eq_nil_of_le (by omega)]
    refine Ev.step (f := fun _ => some (acc, 0)) (fun k => ?_) (by simpa using Ev.now (acc, (0 : Int)))
    simp only [slabvaultref13_Resize.l0]
    rw [if_neg (by rw [lm]; omega)]
  | succ d ih =>
    intro i acc hi hil hacc
    have hlt : i < l.length := by omega
    have htm := hlm _ (List.getElem_mem hlt)
    have hacc2 : acc.length ≤ 1048576 * 256 := by rw [hacc]; exact mulLt (by omega) hZ.2
    rw [List.drop_eq_getElem_cons hlt, List.flatMap_cons, ← List.append_assoc]
    have len : (if insideB E l[i] = true then (X.drop (placeN E l[i] * Z)).take Z else L).length = Z := by
      by_cases c : insideB E l[i] = true
      · rw [if_pos c]
        have hin : l[i] ∈ lexList (bothN E F) := by
          rw [← both_list E F hlF]
          exact List.mem_filter.2 ⟨htm, c⟩
        have hpl := valid_place E _ (both_mem hlF hin).1
        have hblk := block_length (Z := Z) (m := 1) hX (show placeN E l[i] + 1 ≤ prodN E from hpl)
        rwa [Nat.one_mul] at hblk
      · rw [if_neg c]; exact hL
    exact res_ref_round hD hlF Z hZ X L hX hL hN l i hlt hl l[i] rfl htm acc hacc2 (ih (i + 1) _ (by omega) (by omega) (by rw [List.length_append, len, hacc, Nat.add_mul, Nat.one_mul]))
theorem prodN_one (F : List Nat) (h : prodN F ≠ 0) (d : Nat) (hd : d < F.length) : 1 ≤ F.getD d 0 := by
  rcases Nat.eq_zero_or_pos (F.getD d 0) with h0 | h0
  · exfalso
    apply h
    apply prodN_nought
    rw [List.contains_iff_mem]
    rw [List.getD_eq_getElem?_getD, List.getElem?_eq_getElem hd, Option.getD_some] at h0
    rw [← h0]
    exact List.getElem_mem hd
  · exact h0
theorem refResize_ev (X : List Int) (z : Int) (D H L : List Int) (lD : D.length ≤ 9223372036854775807) (lH : H.length ≤ 9223372036854775807) : Ev (fun k => slabvaultref13_Resize.f k X z D H L) (resT X z D H L) := by
  unfold slabvaultref13_Resize.f resT
  refine Ev.bind (refElements_ev D lD) ?_
  by_cases h1 : (elemsT D).2 = 0
  case neg =>
    simp only [if_neg h1]
    exact Ev.now _
  simp only [if_pos h1]
  refine Ev.bind (refElements_ev H lH) ?_
  by_cases h2 : (elemsT H).2 = 0
  case neg =>
    simp only [if_neg h2]
    exact Ev.now _
  simp only [if_pos h2]
  have two : ∀ k, slabvaultref13_Resize.j0 (k + 1) X z D H L (elemsT D).1 (elemsT H).1 true = some ([], 2) := fun k => by simp only [slabvaultref13_Resize.j0, if_true]
  by_cases h3 : D.length = H.length
  case neg =>
    have h3' : ¬ (D.length : Int) = (H.length : Int) := by omega
    simp only [if_neg h3, if_neg h3']
    exact Ev.step two (Ev.now _)
  have h3' : (D.length : Int) = (H.length : Int) := by omega
  simp only [if_pos h3, if_pos h3']
  have hD := ext_of h1
  have hH := ext_of h2
  have hD1 : (elemsT D).1 = ((prodN (D.map Int.toNat) : Nat) : Int) := by rw [hD.elems]
  have hH1 : (elemsT H).1 = ((prodN (H.map Int.toNat) : Nat) : Int) := by rw [hH.elems]
  by_cases z1 : z < 1
  · have e : sizedT z (elemsT D).1 (elemsT H).1 = 2 := by unfold sizedT; rw [if_pos (.inl z1)]
    rw [e, if_neg (by decide)]
    simp only [if_pos z1]
    exact Ev.step two (Ev.now _)
  by_cases z2 : 256 < z
  · have e : sizedT z (elemsT D).1 (elemsT H).1 = 2 := by unfold sizedT; rw [if_pos (.inr z2)]
    rw [e, if_neg (by decide)]
    have d2 : decide (z > 256) = true := decide_eq_true z2
    simp only [if_neg z1, d2]
    exact Ev.step two (Ev.now _)
  have d2 : decide (z > 256) = false := decide_eq_false z2
  simp only [if_neg z1, d2]
  have hwD : wrap64 ((elemsT D).1 * z) = (elemsT D).1 * z := by rw [hD1]; exact wrap_size (by omega) (by have := hD.prod; omega) (by omega) (by omega)
  have hwH : wrap64 ((elemsT H).1 * z) = (elemsT H).1 * z := by rw [hH1]; exact wrap_size (by omega) (by have := hH.prod; omega) (by omega) (by omega)
  have three : ∀ k, slabvaultref13_Resize.j1 (k + 1) X z D H L (elemsT D).1 (elemsT H).1 true = some ([], 3) := fun k => by simp only [slabvaultref13_Resize.j1, if_true]
  have o0 : ∀ k, slabvaultref13_Resize.j0 (k + 1) X z D H L (elemsT D).1 (elemsT H).1 false = (if (elemsT D).1 * z > 65536 then (slabvaultref13_Resize.j1 k X z D H L (elemsT D).1 (elemsT H).1 true) else (slabvaultref13_Resize.j1 k X z D H L (elemsT D).1 (elemsT H).1 (decide ((elemsT H).1 * z > 65536)))) := by
    intro k
    simp only [slabvaultref13_Resize.j0, if_neg (show ¬ (false = true) by decide)]
    rw [hwD, hwH]
  by_cases c1 : 65536 < (elemsT D).1 * z
  · have e : sizedT z (elemsT D).1 (elemsT H).1 = 3 := by unfold sizedT; rw [if_neg (by rintro (h | h) <;> contradiction), if_pos (.inl c1)]
    rw [e, if_neg (by decide)]
    exact Ev.step (fun k => (o0 k).trans (if_pos c1)) (Ev.step three (Ev.now _))
  by_cases c2 : 65536 < (elemsT H).1 * z
  · have e : sizedT z (elemsT D).1 (elemsT H).1 = 3 := by unfold sizedT; rw [if_neg (by rintro (h | h) <;> contradiction), if_pos (.inr c2)]
    rw [e, if_neg (by decide)]
    refine Ev.step (f := fun k => slabvaultref13_Resize.j1 k X z D H L (elemsT D).1 (elemsT H).1 true) (fun k => (o0 k).trans ((if_neg c1).trans ?_)) (Ev.step three (Ev.now _))
    rw [decide_eq_true (show (elemsT H).1 * z > 65536 from c2)]
  have e : sizedT z (elemsT D).1 (elemsT H).1 = 0 := by unfold sizedT; rw [if_neg (by rintro (h | h) <;> contradiction), if_neg (by rintro (h | h) <;> contradiction)]
  rw [e, if_pos rfl]
  refine Ev.step (f := fun k => slabvaultref13_Resize.j1 k X z D H L (elemsT D).1 (elemsT H).1 false) (fun k => (o0 k).trans ((if_neg c1).trans ?_)) ?_
  · rw [decide_eq_false (show ¬ (elemsT H).1 * z > 65536 from c2)]
  have bad : ∀ k, slabvaultref13_Resize.j2 (k + 1) X z D H L (elemsT H).1 true = some ([], 2) := fun k => by simp only [slabvaultref13_Resize.j2, if_true]
  by_cases x1 : (X.length : Int) = (elemsT D).1 * z
  case neg =>
    rw [if_neg (fun h => x1 h.1)]
    refine Ev.step (f := fun k => slabvaultref13_Resize.j2 k X z D H L (elemsT H).1 true) (fun k => ?_) (Ev.step bad (Ev.now _))
    simp only [slabvaultref13_Resize.j1, if_neg (show ¬ (false = true) by decide)]
    rw [hwD, if_neg x1]
  by_cases x2 : (L.length : Int) = z
  case neg =>
    rw [if_neg (fun h => x2 h.2)]
    have ne : ((L.length : Int) != z) = true := by simpa using x2
    refine Ev.step (f := fun k => slabvaultref13_Resize.j2 k X z D H L (elemsT H).1 true) (fun k => ?_) (Ev.step bad (Ev.now _))
    simp only [slabvaultref13_Resize.j1, if_neg (show ¬ (false = true) by decide)]
    rw [hwD, if_pos x1, ne]
  rw [if_pos ⟨x1, x2⟩]
  have ho := okayR_of h1 h2 h3 e ⟨x1, x2⟩
  have ne : ((L.length : Int) != z) = false := by simpa using x2
  refine Ev.step (f := fun k => slabvaultref13_Resize.j2 k X z D H L (elemsT H).1 false) (fun k => ?_) ?_
  · simp only [slabvaultref13_Resize.j1, if_neg (show ¬ (false = true) by decide)]
    rw [hwD, if_pos x1, ne]
  have hfill := fill_puts (X := X) ho.lenX ho.lenL (H.map Int.toNat) (insideB (D.map Int.toNat)) (placeN (D.map Int.toNat)) (lexList (H.map Int.toNat)) [] [] rfl (by simp) (fun t ht hi => valid_place _ _ (both_mem ho.lenF (by
    rw [← both_list _ _ ho.lenF]
    exact List.mem_filter.2 ⟨ht, hi⟩)).1)
  rw [both_list _ _ ho.lenF, lex_length] at hfill
  simp only [List.nil_append] at hfill
  by_cases m0 : prodN (H.map Int.toNat) = 0
  · have hn : lexList (H.map Int.toNat) = [] := List.eq_nil_of_length_eq_zero (by rw [lex_length, m0])
    have hr : resR D H z X L = [] := by
      unfold resR
      rw [hfill, hn]
      rfl
    rw [hr]
    refine Ev.step (f := fun _ => some ([], 0)) (fun k => ?_) (Ev.now _)
    simp only [slabvaultref13_Resize.j2, if_neg (show ¬ (false = true) by decide)]
    rw [hH1, m0]
    exact if_pos rfl
  · have m0' : ¬ (elemsT H).1 = 0 := by rw [hH1]; omega
    have ht := tuples_ev (H.map Int.toNat) ho.extH.len ho.extH.dim (prodN_one _ m0) ho.extH.prod
    rw [← ho.extH.eq] at ht
    refine Ev.step (f := fun k => (slabvaultref13_tuples.f k H).bind fun t => (slabvaultref13_Resize.l0 k X z D L ([] : List Int) t 0)) (fun k => ?_) (Ev.bind ht ?_)
    · simp only [slabvaultref13_Resize.j2, if_neg (show ¬ (false = true) by decide)]
      rw [if_neg m0']
    have hloop := res_ref_loop ho.extD ho.lenF z.toNat ho.min X L ho.lenX ho.lenL ho.bigE (lexList (H.map Int.toNat)) (by rw [lex_length]; exact ho.extH.prod) (fun t ht => ht) (lexList (H.map Int.toNat)).length 0 [] rfl (Nat.zero_le _) (by simp)
    simp only [List.nil_append, List.drop_zero] at hloop
    rw [← hfill, ← ho.size] at hloop
    exact hloop
end Go.Proofs.Ytjbjofmcmjojlab.Pure
end
section
namespace Go.Proofs.Ytjbjofmcmjojlab.Pure
open Go.RowKit Go.Proofs.Ytjbjofmcmjojlab.Wk Go.Proofs.YtjbjofmcmjojlabW.PrintWords Go.Proofs.YtjbjofmcmjojlabW.PrintLast
def heavyT (X : List Int) (D H L : List Int) : Bool := decide ((X.length : Int) > 10000) || (decide ((L.length : Int) > 10000) || (decide ((elemsT D).1 > 3000) || decide ((elemsT H).1 > 3000)))
theorem wide_ev (D : List Int) (lD : D.length ≤ 9223372036854775807) : Ev (fun k => slabvaultlaw13_wide.f k D) (decide ((elemsT D).1 > 3000)) := by
  unfold slabvaultlaw13_wide.f
  exact Ev.bind (refElements_ev D lD) (Ev.now _)
theorem heavy_ev (X : List Int) (z : Int) (D H c L : List Int) (lD : D.length ≤ 9223372036854775807) (lH : H.length ≤ 9223372036854775807) : Ev (fun k => slabvaultlaw13_heavy.f k X z D H c L) (heavyT X D H L) := by
  unfold slabvaultlaw13_heavy.f heavyT
  by_cases h1 : (X.length : Int) > 10000
  · simp only [if_pos h1, decide_eq_true h1, Bool.true_or]
    exact Ev.now _
  simp only [if_neg h1, decide_eq_false h1, Bool.false_or]
  by_cases h2 : (L.length : Int) > 10000
  · simp only [if_pos h2, decide_eq_true h2, Bool.true_or]
    exact Ev.now _
  simp only [if_neg h2, decide_eq_false h2, Bool.false_or]
  refine Ev.bind (wide_ev D lD) ?_
  by_cases h3 : (elemsT D).1 > 3000
  · simp only [decide_eq_true h3, Bool.true_or, if_true]
    exact Ev.now _
  simp only [decide_eq_false h3, Bool.false_or, if_neg (show ¬ (false = true) by decide)]
  exact Ev.bind (wide_ev H lH) (Ev.now _)
theorem heavy_small {X D H L : List Int} (h : heavyT X D H L = false) : X.length ≤ 10000 ∧ L.length ≤ 10000 := by
  unfold heavyT at h
  simp only [Bool.or_eq_false_iff, decide_eq_false_iff_not] at h
  omega
theorem Ev.both {α β : Type} {f : Nat → Option α} {g : Nat → Option β} {a : α} {b : β} (hf : Ev f a) (hg : Ev g b) : ∃ K, ∀ k, K ≤ k → f k = some a ∧ g k = some b := by
  obtain ⟨K1, h1⟩ := hf
  obtain ⟨K2, h2⟩ := hg
  exact ⟨max K1 K2, fun k hk => ⟨h1 k (by omega), h2 k (by omega)⟩⟩
end Go.Proofs.Ytjbjofmcmjojlab.Pure
end
section
namespace Go.Proofs.Ytjbjofmcmjojlab.Pure
open Go.RowKit Go.Proofs.Ytjbjofmcmjojlab.Wk Go.Proofs.YtjbjofmcmjojlabW.PrintWords Go.Proofs.YtjbjofmcmjojlabW.PrintLast
theorem GridResizes (X : List Int) (z : Int) (D H c L : List Int) (lD : D.length ≤ maxLen) (lH : H.length ≤ maxLen) (lc : c.length ≤ maxLen) :
    ∃ k hv, slabvaultlaw13_heavy.f k X z D H c L = some hv ∧ (hv = false → X.length ≤ 10000 ∧ L.length ≤ 10000 ∧ ∃ r e, grid_Resize.f k X z D H L = some (r, e) ∧ slabvaultref13_Resize.f k X z D H L = some (r, e)) := by
  have hm : maxLen = 9223372036854775807 := rfl
  obtain ⟨K1, h1⟩ := Ev.both (resize_ev X z D H L) (refResize_ev X z D H L (by omega) (by omega))
  obtain ⟨K2, h2⟩ := heavy_ev X z D H c L (by omega) (by omega)
  refine ⟨max K1 K2, _, h2 _ (by omega), fun hf => ?_⟩
  have hs := heavy_small hf
  have hk := h1 (max K1 K2) (by omega)
  exact ⟨hs.1, hs.2, (resT X z D H L).1, (resT X z D H L).2, hk.1, hk.2⟩
end Go.Proofs.Ytjbjofmcmjojlab.Pure
end
