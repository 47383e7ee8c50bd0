-- Texts that the row GridCovers leans on, joined by wip/tools/mkclaim.py: Wk1, Wk28, Wk33, Wk34, Wk35, Plain13, Wk29, Wk31, Wk32, Plain13b, PlainCover, PureGridCovers
import Derived.Test.YtjbjofmcmjojlabCGridCovers3
section
namespace Go.Proofs.Ytjbjofmcmjojlab.Wk
open Go.RowKit Go.Proofs.YtjbjofmcmjojlabW.PrintWords Go.Proofs.YtjbjofmcmjojlabW.PrintLast Go.Proofs.YtjbjofmcmjojlabW.PrintMore
attribute [local go_sem] max2_int min2_int max_two min_two max_three min_three max_four min_four
set_option linter.unusedVariables false
set_option linter.unusedSimpArgs false
def slabvaultlaw13_ints.l0 : Nat → List Int → List Int → Int → Option (Bool)
  | 0, _, _, _ => none
  | k + 1, x0, x1, x5 => if x5 < (x0.length : Int) then (if 0 ≤ x5 then (if x5 < (x1.length : Int) then (if (rd x0 x5) = (rd x1 x5) then (slabvaultlaw13_ints.l0 k x0 x1 (wrap64 (x5 + 1))) else (some false)) else (none)) else (none)) else (some true)
def slabvaultlaw13_ints.f (k : Nat) (l0 : List Int) (l1 : List Int) : Option (Bool) := if (l0.length : Int) = (l1.length : Int) then (slabvaultlaw13_ints.l0 k l0 l1 0) else (some false)
end Go.Proofs.Ytjbjofmcmjojlab.Wk
end
section
namespace Go.Proofs.Ytjbjofmcmjojlab.Wk
open Go.RowKit Go.Proofs.YtjbjofmcmjojlabW.PrintWords Go.Proofs.YtjbjofmcmjojlabW.PrintLast Go.Proofs.YtjbjofmcmjojlabW.PrintMore
attribute [local go_sem] max2_int min2_int max_two min_two max_three min_three max_four min_four
set_option linter.unusedVariables false
set_option linter.unusedSimpArgs false
def slabvaultref13_Fit.l0 : Nat → List Int → Int → Option (Int)
  | 0, _, _ => none
  | k + 1, x1, x7 => if x7 < (x1.length : Int) then (if 0 ≤ x7 then (if (rd x1 x7) < 1 then (some 2) else (if (rd x1 x7) > 1048576 then (some 2) else (slabvaultref13_Fit.l0 k x1 (wrap64 (x7 + 1))))) else (none)) else ((slabvaultref12_Elements.f k x1).bind fun bt147 => (some bt147.2))
def slabvaultref13_Fit.f (k : Nat) (l0 : List Int) (l1 : List Int) : Option (Int) := (slabvaultref12_Elements.f k l0).bind fun bt143 => (if bt143.2 = 0 then (if (l1.length : Int) = (l0.length : Int) then (slabvaultref13_Fit.l0 k l1 0) else (some 2)) else (some bt143.2))
end Go.Proofs.Ytjbjofmcmjojlab.Wk
end
section
namespace Go.Proofs.Ytjbjofmcmjojlab.Wk
open Go.RowKit Go.Proofs.YtjbjofmcmjojlabW.PrintWords Go.Proofs.YtjbjofmcmjojlabW.PrintLast Go.Proofs.YtjbjofmcmjojlabW.PrintMore
attribute [local go_sem] max2_int min2_int max_two min_two max_three min_three max_four min_four
set_option linter.unusedVariables false
set_option linter.unusedSimpArgs false
def slabvaultref13_right.l0 : Nat → List Int → Int → Int → Option (Bool)
  | 0, _, _, _ => none
  | k + 1, x0, x1, x5 => if x5 < x1 then (if 0 ≤ x5 then (if x5 < (x0.length : Int) then (if (rd x0 x5) < 0 then (some false) else (slabvaultref13_right.l0 k x0 x1 (wrap64 (x5 + 1)))) else (none)) else (none)) else (some true)
def slabvaultref13_right.f (k : Nat) (l0 : List Int) (a1 : Int) : Option (Bool) := if (l0.length : Int) = a1 then (slabvaultref13_right.l0 k l0 a1 0) else (some false)
end Go.Proofs.Ytjbjofmcmjojlab.Wk
end
section
namespace Go.Proofs.Ytjbjofmcmjojlab.Wk
open Go.RowKit Go.Proofs.YtjbjofmcmjojlabW.PrintWords Go.Proofs.YtjbjofmcmjojlabW.PrintLast Go.Proofs.YtjbjofmcmjojlabW.PrintMore
attribute [local go_sem] max2_int min2_int max_two min_two max_three min_three max_four min_four
set_option linter.unusedVariables false
set_option linter.unusedSimpArgs false
def slabvaultref13_Clip.l0 : Nat → List Int → List Int → List Int → List Int → List Int → Int → Option (List Int × List Int × Int)
  | 0, _, _, _, _, _, _ => none
  | k + 1, x0, x1, x2, x10, x11, x12 => if x12 < (x0.length : Int) then (if 0 ≤ x12 then (if x12 < (x2.length : Int) then (if (rd x2 x12) ≤ (rd x0 x12) then (if x12 < (x1.length : Int) then (if (wrap64 ((rd x2 x12) * (rd x1 x12))) < (rd x0 x12) then (if x10.length < 17592186044416 then (if x11.length < 17592186044416 then (slabvaultref13_Clip.l0 k x0 x1 x2 (x10 ++ [wrap64 ((rd x2 x12) * (rd x1 x12))]) (x11 ++ [mn (rd x1 x12) (wrap64 ((rd x0 x12) - (wrap64 ((rd x2 x12) * (rd x1 x12)))))]) (wrap64 (x12 + 1))) else (none)) else (none)) else (if x10.length < 17592186044416 then (if x11.length < 17592186044416 then (slabvaultref13_Clip.l0 k x0 x1 x2 (x10 ++ [rd x0 x12]) (x11 ++ [mn (rd x1 x12) (wrap64 ((rd x0 x12) - (rd x0 x12)))]) (wrap64 (x12 + 1))) else (none)) else (none))) else (none)) else (if x10.length < 17592186044416 then (if x12 < (x1.length : Int) then (if x11.length < 17592186044416 then (slabvaultref13_Clip.l0 k x0 x1 x2 (x10 ++ [rd x0 x12]) (x11 ++ [mn (rd x1 x12) (wrap64 ((rd x0 x12) - (rd x0 x12)))]) (wrap64 (x12 + 1))) else (none)) else (none)) else (none))) else (none)) else (none)) else (some (x10, x11, 0))
def slabvaultref13_Clip.f (k : Nat) (l0 : List Int) (l1 : List Int) (l2 : List Int) : Option (List Int × List Int × Int) := (slabvaultref13_Fit.f k l0 l1).bind fun t188 => (if t188 = 0 then ((slabvaultref13_right.f k l2 (l0.length : Int)).bind fun t189 => (if t189 = true then (slabvaultref13_Clip.l0 k l0 l1 l2 ([] : List Int) ([] : List Int) 0) else (some (([] : List Int), ([] : List Int), 2)))) else (some (([] : List Int), ([] : List Int), t188)))
def slabvaultref13_Clip.T11 : Bool × List (List Nat × List Nat) := (true, [([], []), ([], []), ([0, 1], [0, 1]), ([2], [2]), ([], []), ([], []), ([4, 5], [4, 5]), ([6], [6]), ([3, 7], [3, 7]), ([8], [8]), ([9], [9]), ([9], [9]), ([10, 11, 9], [9, 10, 11]), ([12, 9], [9, 12]), ([9], [9]), ([9], [9]), ([14, 15, 9], [9, 14, 15]), ([16, 9], [9, 16]), ([13, 17, 9], [9, 13, 17]), ([9], [9]), ([9], [9]), ([19, 20, 9], [9, 19, 20]), ([21, 9], [9, 21]), ([18, 22, 9], [9, 18, 22]), ([9, 23], [9, 23])])
def slabvaultref13_Clip.B11 : List Nat := [0, 0, 3, 7, 0, 0, 48, 112, 255, 511, 1023, 1023, 4095, 8191, 1023, 1023, 50175, 115711, 262143, 1023, 1023, 1573887, 3671039, 8388607, 16777215]
def slabvaultref13_Clip.T12 : Bool × List (List Nat × List Nat) := (true, [([], []), ([], []), ([0, 1], [0, 1]), ([2], [2]), ([], []), ([], []), ([4, 5], [4, 5]), ([6], [6]), ([3, 7], [3, 7]), ([8, 0, 1, 2, 3, 4, 5, 6, 7, 8], [8])])
def slabvaultref13_Clip.B12 : List Nat := [0, 0, 3, 7, 0, 0, 48, 112, 255, 511]
def slabvaultref13_Clip.T14 : Bool × List (List Nat × List Nat) := (true, [([], []), ([], []), ([], []), ([1, 2], [1, 2]), ([3], [3]), ([], []), ([], []), ([5, 6], [5, 6]), ([7], [7]), ([], []), ([8, 9], [8, 9]), ([4, 10], [4, 10]), ([11], [11]), ([0, 12], [0, 12]), ([13, 13, 0, 1, 2, 3, 4, 5, 6, 7, 8, 9, 10, 11, 12, 13], [0, 13])])
def slabvaultref13_Clip.B14 : List Nat := [0, 0, 0, 6, 14, 0, 0, 96, 224, 0, 992, 2046, 4094, 8191, 16383]
end Go.Proofs.Ytjbjofmcmjojlab.Wk
end
section
namespace Go.Proofs.Ytjbjofmcmjojlab.Wk
open Go.RowKit Go.Proofs.YtjbjofmcmjojlabW.PrintWords Go.Proofs.YtjbjofmcmjojlabW.PrintLast Go.Proofs.YtjbjofmcmjojlabW.PrintMore
attribute [local go_sem] max2_int min2_int max_two min_two max_three min_three max_four min_four
set_option linter.unusedVariables false
set_option linter.unusedSimpArgs false
def slabvaultlaw13_GridClips.f (k : Nat) (l0 : List Int) (l1 : List Int) (l2 : List Int) : Option (Bool) := (grid_Clip.f k l0 l1 l2).bind fun bt222 => ((slabvaultref13_Clip.f k l0 l1 l2).bind fun bt229 => ((slabvaultlaw13_ints.f k bt222.1 bt229.1).bind fun t236 => (if t236 = true then ((slabvaultlaw13_ints.f k bt222.2.1 bt229.2.1).bind fun t237 => (if t237 = true then (if bt222.2.2 = bt229.2.2 then ((slabvaultlaw13_lives.f).bind fun t238 => (some t238)) else (none)) else (none))) else (none))))
def slabvaultlaw13_GridClips.Pure : Prop := ∀ (l0 : List Int) (l1 : List Int) (l2 : List Int), l0.length ≤ maxLen → l0.length * 8 ≤ 140737488351232 → (∀ x ∈ l0, (Lit.int .i64 x).wf = true) → l1.length ≤ maxLen → l1.length * 8 ≤ 140737488351232 → (∀ x ∈ l1, (Lit.int .i64 x).wf = true) → l2.length ≤ maxLen → l2.length * 8 ≤ 140737488351232 → (∀ x ∈ l2, (Lit.int .i64 x).wf = true) → ∃ k, slabvaultlaw13_GridClips.f k l0 l1 l2 = some true
end Go.Proofs.Ytjbjofmcmjojlab.Wk
end
section
namespace Go.Proofs.Ytjbjofmcmjojlab.Pure
open Go.RowKit Go.Proofs.Ytjbjofmcmjojlab.Wk Go.Proofs.YtjbjofmcmjojlabW.PrintWords Go.Proofs.YtjbjofmcmjojlabW.PrintLast Go.Proofs.YtjbjofmcmjojlabW.PrintMore
theorem wrap_up {i : Nat} {n : Nat} (h : i < n) (hn : n ≤ 9223372036854775807) : wrap64 ((i : Int) + 1) = ((i + 1 : Nat) : Int) := by unfold wrap64; omega
theorem rd_nat (l : List Int) (i : Nat) (h : i < l.length) : rd l (i : Int) = l[i] := by simp [rd, h]
def elemsT (l0 : List Int) : Int × Int := if 4 < l0.length ∨ l0.any badDim = true then (0, 2) else if l0.contains 0 = true then (0, 0) else prodLoop l0 l0.length 0 1
theorem elements_eq (l : List Int) : space_Elements.f l = some (elemsT l) := rfl
theorem ref_l2 (l : List Int) (hm : l.length ≤ 9223372036854775807) (hb : l.any badDim = false) : ∀ (d i : Nat) (n : Int), l.length - i = d → i ≤ l.length → 0 ≤ n → n ≤ 1048576 →
    Ev (fun k => slabvaultref12_Elements.l2 k l n i) (prodLoop l d i n) := by
  intro d
  induction d with
  | zero =>
    intro i n h hi _ _
    refine Ev.step (f := fun _ => some (n, 0)) (fun k => ?_) (Ev.now _)
    simp only [slabvaultref12_Elements.l2]
    rw [if_neg (by omega)]
  | succ d ih =>
    intro i n h hi h0 h1
    have hlt : i < l.length := by omega
    have hg := good_rd hb i hlt
    have hy1 : 0 ≤ n * rd l i := Int.mul_nonneg h0 hg.1
    have hy2 : n * rd l i ≤ 1048576 * 1048576 := Int.mul_le_mul h1 hg.2 hg.1 (by omega)
    have hw : wrap64 (n * rd l i) = n * rd l i := by unfold wrap64; omega
    by_cases hbig : n * rd l i > 1048576
    · refine Ev.step (f := fun _ => some (0, 3)) (fun k => ?_) (by rw [prodLoop, if_pos hbig]; exact Ev.now _)
      simp only [slabvaultref12_Elements.l2]
      rw [if_pos (by omega), if_pos (by omega), hw, if_pos hbig]
    · refine Ev.step (f := fun k => slabvaultref12_Elements.l2 k l (n * rd l i) ((i + 1 : Nat) : Int)) (fun k => ?_) (by rw [prodLoop, if_neg hbig]; exact ih (i + 1) _ (by omega) (by omega) hy1 (by omega))
      simp only [slabvaultref12_Elements.l2]
      rw [if_pos (by omega), if_pos (by omega), hw, if_neg hbig, wrap_up hlt hm]
theorem ref_l1 (l : List Int) (hm : l.length ≤ 9223372036854775807) (hb : l.any badDim = false) : ∀ (d i : Nat), l.length - i = d → i ≤ l.length →
    Ev (fun k => slabvaultref12_Elements.l1 k l 1 i) (if (l.drop i).contains 0 = true then (0, 0) else prodLoop l l.length 0 1) := by
  intro d
  induction d with
  | zero =>
    intro i h hi
    rw [List.drop_eq_nil_of_le (by omega)]
    refine Ev.step (f := fun k => slabvaultref12_Elements.l2 k l 1 0) (fun k => ?_) (ref_l2 l hm hb l.length 0 1 (by omega) (by omega) (by omega) (by omega))
    simp only [slabvaultref12_Elements.l1]
    rw [if_neg (by omega)]
  | succ d ih =>
    intro i h hi
    have hlt : i < l.length := by omega
    rw [List.drop_eq_getElem_cons hlt, List.contains_cons]
    have e := rd_nat l i hlt
    by_cases hz : rd l i = 0
    · refine Ev.step (f := fun _ => some (0, 0)) (fun k => ?_) (by rw [e] at hz; rw [hz]; exact Ev.now _)
      simp only [slabvaultref12_Elements.l1]
      rw [if_pos (by omega), if_pos (by omega), if_pos hz]
    · refine Ev.step (f := fun k => slabvaultref12_Elements.l1 k l 1 ((i + 1 : Nat) : Int)) (fun k => ?_) (by
        have : (0 == l[i]) = false := by
          rw [e] at hz
          exact beq_eq_false_iff_ne.2 (fun h0 => hz h0.symm)
        rw [this, Bool.false_or]
        exact ih (i + 1) (by omega) (by omega))
      simp only [slabvaultref12_Elements.l1]
      rw [if_pos (by omega), if_pos (by omega), if_neg hz, wrap_up hlt hm]
theorem ref_l0 (l : List Int) (hm : l.length ≤ 9223372036854775807) : ∀ (d i : Nat), l.length - i = d → i ≤ l.length → (l.take i).any badDim = false →
    Ev (fun k => slabvaultref12_Elements.l0 k l 1 i) (if (l.drop i).any badDim = true then (0, 2) else if l.contains 0 = true then (0, 0) else prodLoop l l.length 0 1) := by
  intro d
  induction d with
  | zero =>
    intro i h hi hb
    rw [List.drop_eq_nil_of_le (by omega)]
    rw [List.take_of_length_le (by omega)] at hb
    refine Ev.step (f := fun k => slabvaultref12_Elements.l1 k l 1 0) (fun k => ?_) (by
      have := ref_l1 l hm hb l.length 0 (by omega) (by omega)
      rw [List.drop_zero] at this
      rw [if_neg (by simp)]
      exact this)
    simp only [slabvaultref12_Elements.l0]
    rw [if_neg (by omega)]
  | succ d ih =>
    intro i h hi hb
    have hlt : i < l.length := by omega
    have e := rd_nat l i hlt
    rw [List.drop_eq_getElem_cons hlt, List.any_cons]
    by_cases h1 : rd l i < 0
    · refine Ev.step (f := fun _ => some (0, 2)) (fun k => ?_) (by
        have : badDim l[i] = true := by rw [e] at h1; simp [badDim, h1]
        rw [this]; exact Ev.now _)
      simp only [slabvaultref12_Elements.l0]
      rw [if_pos (by omega), if_pos (by omega), if_pos h1]
    · by_cases h2 : rd l i > 1048576
      · refine Ev.step (f := fun _ => some (0, 2)) (fun k => ?_) (by
          have : badDim l[i] = true := by rw [e] at h2; simp [badDim]; omega
          rw [this]; exact Ev.now _)
        simp only [slabvaultref12_Elements.l0]
        rw [if_pos (by omega), if_pos (by omega), if_neg h1, if_pos h2]
      · have hg : badDim l[i] = false := by rw [e] at h1 h2; simp [badDim]; omega
        refine Ev.step (f := fun k => slabvaultref12_Elements.l0 k l 1 ((i + 1 : Nat) : Int)) (fun k => ?_) (by
          rw [hg, Bool.false_or]
          exact ih (i + 1) (by omega) (by omega) (by rw [List.take_succ_eq_append_getElem hlt, List.any_append, hb]; simp [hg]))
        simp only [slabvaultref12_Elements.l0]
        rw [if_pos (by omega), if_pos (by omega), if_neg h1, if_neg h2, wrap_up hlt hm]
theorem refElements_ev (l : List Int) (hm : l.length ≤ 9223372036854775807) : Ev (fun k => slabvaultref12_Elements.f k l) (elemsT l) := by
  unfold elemsT
  by_cases h4 : 4 < l.length
  · rw [if_pos (.inl h4)]
    refine Ev.congr (f := fun _ => some (0, 2)) (fun k => ?_) (Ev.now _)
    unfold slabvaultref12_Elements.f
    rw [if_pos (by omega)]
  · refine Ev.congr (f := fun k => slabvaultref12_Elements.l0 k l 1 0) (fun k => ?_) ?_
    · unfold slabvaultref12_Elements.f
      rw [if_neg (by omega)]
    · have := ref_l0 l hm l.length 0 (by omega) (by omega) (by simp)
      simpa [h4] using this
def fitT (D H : List Int) : Int := if (elemsT D).2 = 0 then (if H.length = D.length then (if H.any badShape = true then 2 else (elemsT H).2) else 2) else (elemsT D).2
theorem fit_eq (D H : List Int) (h : H.length ≤ maxLen) : grid_fit.f D H = some (fitT D H) := by
  unfold grid_fit.f fitT
  rw [elements_eq, elements_eq]
  simp only [Option.bind_some]
  split <;> (try rfl)
  split <;> (try rfl)
  first | rw [if_pos h] | skip
  split <;> rfl
def rightT (c : List Int) (n : Nat) : Bool := decide (c.length = n) && !c.any negCoord
theorem right_eq (c : List Int) (n : Nat) (h : c.length ≤ maxLen) : grid_right.f c (n : Int) = some (rightT c n) := by
  unfold grid_right.f rightT
  rw [if_pos h]
  have : decide ((c.length : Int) = (n : Int)) = decide (c.length = n) := by
    rw [decide_eq_decide]; omega
  rw [this]
structure Good (D H : List Int) : Prop where
  len : D.length ≤ 4
  same : H.length = D.length
  dims : ∀ i : Nat, i < D.length → 0 ≤ rd D i ∧ rd D i ≤ 1048576
  shape : ∀ i : Nat, i < D.length → 1 ≤ rd H i ∧ rd H i ≤ 1048576
theorem good_of_fit {D H : List Int} (h : fitT D H = 0) : Good D H := by
  unfold fitT at h
  split at h
  case isFalse => contradiction
  case isTrue h0 =>
  split at h
  case isFalse => cases h
  case isTrue hl =>
  split at h
  case isTrue => cases h
  case isFalse hs =>
  have hs : H.any badShape = false := by simpa using hs
  unfold elemsT at h0
  split at h0
  case isTrue => cases h0
  case isFalse hd =>
  have hd1 : D.length ≤ 4 := by
    rcases Nat.lt_or_ge 4 D.length with h4 | h4
    · exact absurd (.inl h4) hd
    · exact h4
  have hd2 : D.any badDim = false := by
    cases hb : D.any badDim
    · rfl
    · exact absurd (.inr hb) hd
  refine ⟨hd1, hl, fun i hi => good_rd hd2 i hi, fun i hi => ?_⟩
  have hi2 : i < H.length := by omega
  rw [rd_nat H i hi2]
  have := List.any_eq_false.1 hs _ (List.getElem_mem hi2)
  simp [badShape] at this
  omega
def clipAt (D H c : Int) : Int := if c * H < D then c * H else D
def clipS (D H c : List Int) (i : Nat) : List Int := (List.range' i (D.length - i)).map fun (d : Nat) => clipAt (rd D d) (rd H d) (rd c d)
def clipP (D H c : List Int) (i : Nat) : List Int := (List.range' i (D.length - i)).map fun (d : Nat) => mn (rd H d) (rd D d - clipAt (rd D d) (rd H d) (rd c d))
theorem clipAt_le {D H c : Int} (hD : 0 ≤ D) (hH : 1 ≤ H) (hc : 0 ≤ c) : 0 ≤ clipAt D H c ∧ clipAt D H c ≤ D := by
  unfold clipAt
  have : 0 ≤ c * H := Int.mul_nonneg hc (by omega)
  split <;> omega
theorem range'_step {i n : Nat} (h : i < n) : List.range' i (n - i) = i :: List.range' (i + 1) (n - (i + 1)) := by
  rw [show n - i = (n - (i + 1)) + 1 by omega, List.range'_succ]
theorem quot_in {D H c : Int} (hD : 0 ≤ D ∧ D ≤ 1048576) (hH : 1 ≤ H ∧ H ≤ 1048576) (hc : 0 ≤ c) : wrap64 (Int.tdiv D H) = D / H := by
  rw [Int.tdiv_eq_ediv_of_nonneg hD.1]
  have h1 : 0 ≤ D / H := Int.ediv_nonneg hD.1 (by omega)
  have h2 : D / H ≤ D := Int.ediv_le_self _ hD.1
  unfold wrap64; omega
theorem clip_step {D H c : Int} (hD : 0 ≤ D ∧ D ≤ 1048576) (hH : 1 ≤ H ∧ H ≤ 1048576) (hc : 0 ≤ c) (h : c ≤ D / H) : mn (wrap64 (c * H)) D = clipAt D H c := by
  have h1 : c * H ≤ D := Int.le_trans (Int.mul_le_mul_of_nonneg_right h (by omega)) (Int.ediv_mul_le D (by omega))
  have h2 : 0 ≤ c * H := Int.mul_nonneg hc (by omega)
  rw [show wrap64 (c * H) = c * H by unfold wrap64; omega]
  unfold mn clipAt
  split <;> split <;> omega
theorem clip_over {D H c : Int} (hD : 0 ≤ D ∧ D ≤ 1048576) (hH : 1 ≤ H ∧ H ≤ 1048576) (h : ¬ c ≤ D / H) : clipAt D H c = D := by
  have h1 : D < c * H := Int.lt_mul_of_ediv_lt (by omega) (by omega)
  unfold clipAt
  rw [if_neg (by omega)]
theorem clip_l0 (D H c : List Int) (hg : Good D H) (hl : c.length = D.length) (hc : ∀ i : Nat, i < c.length → 0 ≤ rd c i) : ∀ (d i : Nat) (x y : List Int), D.length - i = d → i ≤ D.length → x.length ≤ i → y.length ≤ i →
    Ev (fun k => grid_Clip.l0 k D H x y c (c.length : Int) i) (x ++ clipS D H c i, y ++ clipP D H c i, 0) := by
  have h4 := hg.len
  have hs := hg.same
  intro d
  induction d with
  | zero =>
    intro i x y h hi hx hy
    refine Ev.step (f := fun _ => some (x, y, 0)) (fun k => ?_) ?_
    · simp only [grid_Clip.l0]
      rw [if_neg (by omega)]
    · simp only [clipS, clipP, show D.length - i = 0 by omega, List.range'_zero, List.map_nil, List.append_nil]
      exact Ev.now _
  | succ d ih =>
    intro i x y h hi hx hy
    have hlt : i < D.length := by omega
    have hD := hg.dims i hlt
    have hH := hg.shape i hlt
    have hC := hc i (by omega)
    have hq := quot_in hD hH hC
    have hle := clipAt_le hD.1 hH.1 hC
    have hS : clipS D H c i = clipAt (rd D i) (rd H i) (rd c i) :: clipS D H c (i + 1) := by simp only [clipS, range'_step hlt, List.map_cons]
    have hP : clipP D H c i = mn (rd H i) (rd D i - clipAt (rd D i) (rd H i) (rd c i)) :: clipP D H c (i + 1) := by simp only [clipP, range'_step hlt, List.map_cons]
    refine Ev.step (f := fun k => grid_Clip.l0 k D H (x ++ [clipAt (rd D i) (rd H i) (rd c i)]) (y ++ [mn (rd H i) (rd D i - clipAt (rd D i) (rd H i) (rd c i))]) c (c.length : Int) ((i + 1 : Nat) : Int)) (fun k => ?_) ?_
    · simp only [grid_Clip.l0]
      have hw : wrap64 (rd D i - clipAt (rd D i) (rd H i) (rd c i)) = rd D i - clipAt (rd D i) (rd H i) (rd c i) := by unfold wrap64; omega
      rw [if_pos (by omega), if_pos (by omega), if_pos (by omega), if_pos (by omega), if_pos (by omega), if_neg (by omega), hq, wrap_up hlt (by omega)]
      by_cases hle2 : rd c i ≤ rd D i / rd H i
      · rw [if_pos hle2, if_pos (by omega), if_pos (by omega), clip_step hD hH hC hle2, hw]
      · rw [if_neg hle2, if_pos (by omega), if_pos (by omega)]
        have ho := clip_over hD hH hle2
        rw [ho] at hw ⊢
        rw [hw]
    · rw [hS, hP]
      have := ih (i + 1) (x ++ [clipAt (rd D i) (rd H i) (rd c i)]) (y ++ [mn (rd H i) (rd D i - clipAt (rd D i) (rd H i) (rd c i))]) (by omega) (by omega) (by simp; omega) (by simp; omega)
      simpa only [List.append_assoc, List.singleton_append] using this
def clipT (D H c : List Int) : List Int × List Int × Int := if fitT D H = 0 then (if rightT c D.length = true then (clipS D H c 0, clipP D H c 0, 0) else ([], [], 2)) else ([], [], fitT D H)
theorem right_of {c : List Int} {n : Nat} (h : rightT c n = true) : c.length = n ∧ ∀ i : Nat, i < c.length → 0 ≤ rd c i := by
  simp only [rightT, Bool.and_eq_true, decide_eq_true_eq, Bool.not_eq_true'] at h
  refine ⟨h.1, fun i hi => ?_⟩
  have := List.any_eq_false.1 h.2 _ (List.getElem_mem hi)
  rw [rd_nat c i hi]
  simp [negCoord] at this
  exact this
theorem clip_ev (D H c : List Int) (hH : H.length ≤ maxLen) (hc : c.length ≤ maxLen) : Ev (fun k => grid_Clip.f k D H c) (clipT D H c) := by
  unfold grid_Clip.f clipT
  rw [fit_eq D H hH, right_eq c D.length hc]
  simp only [Option.bind_some]
  by_cases h0 : fitT D H = 0
  · simp only [if_pos h0]
    by_cases h1 : rightT c D.length = true
    · simp only [if_pos h1]
      have hr := right_of h1
      have := clip_l0 D H c (good_of_fit h0) hr.1 hr.2 D.length 0 [] [] (by omega) (by omega) (by simp) (by simp)
      simpa using this
    · simp only [if_neg h1]
      exact Ev.now _
  · simp only [if_neg h0]
    exact Ev.now _
end Go.Proofs.Ytjbjofmcmjojlab.Pure
end
section
namespace Go.Proofs.Ytjbjofmcmjojlab.Wk
open Go.RowKit Go.Proofs.YtjbjofmcmjojlabW.PrintWords Go.Proofs.YtjbjofmcmjojlabW.PrintLast Go.Proofs.YtjbjofmcmjojlabW.PrintMore
attribute [local go_sem] max2_int min2_int max_two min_two max_three min_three max_four min_four
set_option linter.unusedVariables false
set_option linter.unusedSimpArgs false
def slabvaultref13_Chunks.l0 : Nat → List Int → List Int → Int → Int → Option (Int × Int)
  | 0, _, _, _, _ => none
  | k + 1, x0, x1, x7, x8 => if x8 < (x0.length : Int) then (if 0 ≤ x8 then (if x8 < (x1.length : Int) then (if (rd x1 x8) = 0 then (none) else (slabvaultref13_Chunks.l0 k x0 x1 (wrap64 (x7 * (wrap64 (Int.tdiv (wrap64 ((wrap64 ((rd x0 x8) + (rd x1 x8))) - 1)) (rd x1 x8))))) (wrap64 (x8 + 1)))) else (none)) else (none)) else (some (x7, 0))
def slabvaultref13_Chunks.f (k : Nat) (l0 : List Int) (l1 : List Int) : Option (Int × Int) := (slabvaultref13_Fit.f k l0 l1).bind fun t149 => (if t149 = 0 then (slabvaultref13_Chunks.l0 k l0 l1 1 0) else (some (0, t149)))
end Go.Proofs.Ytjbjofmcmjojlab.Wk
end
section
namespace Go.Proofs.Ytjbjofmcmjojlab.Wk
open Go.RowKit Go.Proofs.YtjbjofmcmjojlabW.PrintWords Go.Proofs.YtjbjofmcmjojlabW.PrintLast Go.Proofs.YtjbjofmcmjojlabW.PrintMore
attribute [local go_sem] max2_int min2_int max_two min_two max_three min_three max_four min_four
set_option linter.unusedVariables false
set_option linter.unusedSimpArgs false
mutual
def slabvaultref13_Of.j0 : Nat → List Int → List Int → Bool → Option (List Int × List Int × Int)
  | 0, _, _, _ => none
  | k + 1, x0, x1, x19 => if x19 = true then (some (([] : List Int), ([] : List Int), 2)) else (slabvaultref13_Of.l0 k x0 x1 ([] : List Int) ([] : List Int) 0)
def slabvaultref13_Of.l0 : Nat → List Int → List Int → List Int → List Int → Int → Option (List Int × List Int × Int)
  | 0, _, _, _, _, _ => none
  | k + 1, x0, x1, x7, x8, x9 => if x9 < (x0.length : Int) then (if 0 ≤ x9 then (if (rd x0 x9) < 0 then (some (([] : List Int), ([] : List Int), 2)) else (if x9 < (x1.length : Int) then (if (rd x1 x9) < 1 then (some (([] : List Int), ([] : List Int), 2)) else (if (rd x1 x9) > 1048576 then (some (([] : List Int), ([] : List Int), 2)) else (if (rd x1 x9) = 0 then (none) else (if x7.length < 17592186044416 then (if x8.length < 17592186044416 then (slabvaultref13_Of.l0 k x0 x1 (x7 ++ [wrap64 (Int.tdiv (rd x0 x9) (rd x1 x9))]) (x8 ++ [Int.tmod (rd x0 x9) (rd x1 x9)]) (wrap64 (x9 + 1))) else (none)) else (none))))) else (none))) else (none)) else (some (x7, x8, 0))
end
def slabvaultref13_Of.f (k : Nat) (l0 : List Int) (l1 : List Int) : Option (List Int × List Int × Int) := if (l0.length : Int) > 4 then (slabvaultref13_Of.j0 k l0 l1 true) else (slabvaultref13_Of.j0 k l0 l1 ((l0.length : Int) != (l1.length : Int)))
def slabvaultref13_Of.T9 : Bool × List (List Nat × List Nat) := (true, [([], []), ([], []), ([], []), ([1, 2], [1, 2]), ([3], [3]), ([], []), ([], []), ([5, 6], [5, 6]), ([7], [7]), ([4, 8], [4, 8]), ([9], [9]), ([0, 10], [0, 10]), ([11, 11, 0, 1, 2, 3, 4, 5, 6, 7, 8, 9, 10, 11], [0, 11])])
def slabvaultref13_Of.B9 : List Nat := [0, 0, 0, 6, 14, 0, 0, 96, 224, 510, 1022, 2047, 4095]
def slabvaultref13_Of.T10 : Bool × List (List Nat × List Nat) := (true, [([], []), ([], []), ([], []), ([1, 2], [1, 2]), ([3], [3]), ([], []), ([], []), ([5, 6], [5, 6]), ([7], [7]), ([4, 8], [4, 8]), ([9], [9]), ([0, 10], [0, 10]), ([11, 11, 0, 1, 2, 3, 4, 5, 6, 7, 8, 9, 10, 11], [0, 11])])
def slabvaultref13_Of.B10 : List Nat := [0, 0, 0, 6, 14, 0, 0, 96, 224, 510, 1022, 2047, 4095]
end Go.Proofs.Ytjbjofmcmjojlab.Wk
end
section
namespace Go.Proofs.Ytjbjofmcmjojlab.Wk
open Go.RowKit Go.Proofs.YtjbjofmcmjojlabW.PrintWords Go.Proofs.YtjbjofmcmjojlabW.PrintLast Go.Proofs.YtjbjofmcmjojlabW.PrintMore
attribute [local go_sem] max2_int min2_int max_two min_two max_three min_three max_four min_four
set_option linter.unusedVariables false
set_option linter.unusedSimpArgs false
def slabvaultlaw13_GridCounts.f (k : Nat) (l0 : List Int) (l1 : List Int) (l2 : List Int) : Option (Bool) := (grid_Chunks.f k l0 l1).bind fun bt166 => ((slabvaultref13_Chunks.f k l0 l1).bind fun bt168 => ((grid_Of.f l2 l1).bind fun bt170 => ((slabvaultref13_Of.f k l2 l1).bind fun bt177 => (if bt166.1 = bt168.1 then (if bt166.2 = bt168.2 then ((slabvaultlaw13_ints.f k bt170.1 bt177.1).bind fun t184 => (if t184 = true then ((slabvaultlaw13_ints.f k bt170.2.1 bt177.2.1).bind fun t185 => (if t185 = true then (if bt170.2.2 = bt177.2.2 then ((slabvaultlaw13_lives.f).bind fun t186 => (some t186)) else (none)) else (none))) else (none))) else (none)) else (none)))))
def slabvaultlaw13_GridCounts.Pure : Prop := ∀ (l0 : List Int) (l1 : List Int) (l2 : List Int), l0.length ≤ maxLen → l0.length * 8 ≤ 140737488351232 → (∀ x ∈ l0, (Lit.int .i64 x).wf = true) → l1.length ≤ maxLen → l1.length * 8 ≤ 140737488351232 → (∀ x ∈ l1, (Lit.int .i64 x).wf = true) → l2.length ≤ maxLen → l2.length * 8 ≤ 140737488351232 → (∀ x ∈ l2, (Lit.int .i64 x).wf = true) → ∃ k, slabvaultlaw13_GridCounts.f k l0 l1 l2 = some true
end Go.Proofs.Ytjbjofmcmjojlab.Wk
end
section
namespace Go.Proofs.Ytjbjofmcmjojlab.Pure
open Go.RowKit Go.Proofs.Ytjbjofmcmjojlab.Wk Go.Proofs.YtjbjofmcmjojlabW.PrintWords Go.Proofs.YtjbjofmcmjojlabW.PrintLast Go.Proofs.YtjbjofmcmjojlabW.PrintMore
def chunkL (D H : List Int) : Nat → Nat → Int → Int
  | 0, _, n => n
  | d + 1, i, n => chunkL D H d (i + 1) (wrap64 (n * wrap64 (Int.tdiv (wrap64 (wrap64 (rd D i + rd H i) - 1)) (rd H i))))
def chunksT (D H : List Int) : Int × Int := if fitT D H = 0 then (chunkL D H D.length 0 1, 0) else (0, fitT D H)
theorem chunks_l0 (D H : List Int) (hg : Good D H) : ∀ (d i : Nat) (n : Int), D.length - i = d → i ≤ D.length → Ev (fun k => grid_Chunks.l0 k D H n (D.length : Int) i) (chunkL D H d i n, 0) := by
  have h4 := hg.len
  have hs := hg.same
  intro d
  induction d with
  | zero =>
    intro i n h hi
    refine Ev.step (f := fun _ => some (n, 0)) (fun k => ?_) (Ev.now _)
    simp only [grid_Chunks.l0]
    rw [if_neg (by omega)]
  | succ d ih =>
    intro i n h hi
    have hlt : i < D.length := by omega
    have hH := hg.shape i hlt
    refine Ev.step (f := fun k => grid_Chunks.l0 k D H _ (D.length : Int) ((i + 1 : Nat) : Int)) (fun k => ?_) (ih (i + 1) _ (by omega) (by omega))
    simp only [grid_Chunks.l0]
    rw [if_pos (by omega), if_pos (by omega), if_pos (by omega), if_pos (by omega), if_neg (by omega), wrap_up hlt (by omega)]
theorem chunks_ev (D H : List Int) (hH : H.length ≤ maxLen) : Ev (fun k => grid_Chunks.f k D H) (chunksT D H) := by
  unfold grid_Chunks.f chunksT
  rw [fit_eq D H hH]
  simp only [Option.bind_some]
  by_cases h0 : fitT D H = 0
  · simp only [if_pos h0]
    exact chunks_l0 D H (good_of_fit h0) D.length 0 1 (by omega) (by omega)
  · simp only [if_neg h0]
    exact Ev.now _
def ofT (A S : List Int) : List Int × List Int × Int := if 4 < A.length ∨ A.length ≠ S.length then ([], [], 2) else ofLoop A S A.length 0 [] []
theorem of_eq (A S : List Int) (hx : ∀ x ∈ A, x ≤ 9223372036854775807) (hA : A.length ≤ 9223372036854775807) (hS : S.length ≤ 9223372036854775807) : grid_Of.f A S = some (ofT A S) := by
  unfold grid_Of.f ofT
  rw [if_pos ⟨hx, hA, hS⟩]
end Go.Proofs.Ytjbjofmcmjojlab.Pure
end
section
namespace Go.Proofs.Ytjbjofmcmjojlab.Pure
open Go.RowKit Go.Proofs.Ytjbjofmcmjojlab.Wk Go.Proofs.YtjbjofmcmjojlabW.PrintWords Go.Proofs.YtjbjofmcmjojlabW.PrintLast Go.Proofs.YtjbjofmcmjojlabW.PrintMore Go.Proofs.YtjbjofmcmjojlabQ
def prodI : List Int → Int
  | [] => 1
  | d :: D => d * prodI D
def sumI : List Int → Int
  | [] => 0
  | d :: D => d + sumI D
theorem sumI_append (a b : List Int) : sumI (a ++ b) = sumI a + sumI b := by
  induction a with
  | nil => simp [sumI]
  | cons x a ih => simp only [List.cons_append, sumI, ih]; omega
theorem sumI_mul (x : Int) (l : List Int) : sumI (l.map (x * ·)) = x * sumI l := by
  induction l with
  | nil => simp [sumI]
  | cons y l ih => simp only [List.map_cons, sumI, ih, Int.mul_add]
theorem prodI_pos : ∀ (D : List Int), (∀ x ∈ D, 1 ≤ x) → 1 ≤ prodI D
  | [], _ => by simp [prodI]
  | d :: D, h => by
    have h1 := prodI_pos D (fun x hx => h x (List.mem_cons_of_mem _ hx))
    have h2 := h d List.mem_cons_self
    have := Int.mul_le_mul h2 h1 (by omega) (by omega)
    simp only [prodI]; omega
def cntI (d h : Int) : Nat := ((d + h - 1) / h).toNat
def cntL : List Int → List Int → List Nat
  | d :: D, h :: H => cntI d h :: cntL D H
  | _, _ => []
def partL : List Int → List Int → List Nat → Int
  | d :: D, h :: H, i :: s => mn h (d - (i : Int) * h) * partL D H s
  | _, _, _ => 1
def prodN : List Nat → Nat
  | [] => 1
  | n :: N => n * prodN N
theorem cnt_bounds {d h : Int} (hd : 1 ≤ d) (hh : 1 ≤ h) : 1 ≤ cntI d h ∧ (cntI d h : Int) ≤ d ∧ ((cntI d h : Int) - 1) * h < d ∧ d ≤ (cntI d h : Int) * h := by
  have hq : 1 ≤ (d + h - 1) / h := by
    rw [Int.le_ediv_iff_mul_le (by omega)]; omega
  have e : (cntI d h : Int) = (d + h - 1) / h := by unfold cntI; omega
  have h1 := Int.ediv_mul_le (d + h - 1) (b := h) (by omega)
  have h2 := Int.lt_ediv_add_one_mul_self (d + h - 1) (b := h) (by omega)
  refine ⟨by omega, ?_, ?_, ?_⟩
  · rw [e]
    have h3 : (d + h - 1) / h < d + 1 := by
      rw [Int.ediv_lt_iff_lt_mul (by omega)]
      have := Int.mul_le_mul_of_nonneg_left hh (show (0 : Int) ≤ d by omega)
      have h4 : (d + 1) * h = d * h + h := by rw [Int.add_mul, Int.one_mul]
      omega
    omega
  · rw [e, Int.sub_mul, Int.one_mul]; omega
  · rw [e]
    have h4 : ((d + h - 1) / h + 1) * h = (d + h - 1) / h * h + h := by rw [Int.add_mul, Int.one_mul]
    omega
theorem pieces {d h : Int} (hd : 0 ≤ d) (hh : 1 ≤ h) : ∀ (m : Nat), ((m : Int) - 1) * h < d → sumI ((List.range m).map fun (i : Nat) => mn h (d - (i : Int) * h)) = mn ((m : Int) * h) d
  | 0, _ => by
    have : ((0 : Nat) : Int) * h = 0 := by simp
    rw [this]
    simp only [List.range_zero, List.map_nil, sumI]
    unfold mn; split <;> omega
  | m + 1, hm => by
    have e1 : ((m + 1 : Nat) : Int) - 1 = m := by omega
    rw [e1] at hm
    have e2 : ((m : Int) - 1) * h = m * h - h := by rw [Int.sub_mul, Int.one_mul]
    have e3 : ((m + 1 : Nat) : Int) * h = m * h + h := by push_cast; rw [Int.add_mul, Int.one_mul]
    have ih := pieces (d := d) hd hh m (by rw [e2]; omega)
    rw [List.range_succ, List.map_append, sumI_append, ih, e3]
    simp only [List.map_cons, List.map_nil, sumI]
    generalize (m : Int) * h = q at *
    unfold mn
    split <;> split <;> (try split) <;> omega
theorem lex_sum : ∀ (D H : List Int), H.length = D.length → (∀ x ∈ D, 1 ≤ x) → (∀ x ∈ H, 1 ≤ x) → sumI ((lexList (cntL D H)).map (partL D H)) = prodI D
  | [], [], _, _, _ => by simp [cntL, lexList, partL, sumI, prodI]
  | d :: D, h :: H, hl, hD, hH => by
    have hd := hD d List.mem_cons_self
    have hh := hH h List.mem_cons_self
    have ih := lex_sum D H (by simpa using hl) (fun x hx => hD x (List.mem_cons_of_mem _ hx)) (fun x hx => hH x (List.mem_cons_of_mem _ hx))
    have hb := cnt_bounds hd hh
    have hp := pieces (d := d) (by omega) hh (cntI d h) hb.2.2.1
    have hmn : mn ((cntI d h : Int) * h) d = d := by unfold mn; split <;> omega
    rw [hmn] at hp
    simp only [cntL, lexList, prodI]
    have key : ∀ (l : List Nat), sumI ((l.flatMap fun i => (lexList (cntL D H)).map (i :: ·)).map (partL (d :: D) (h :: H))) = sumI (l.map fun (i : Nat) => mn h (d - (i : Int) * h)) * prodI D := by
      intro l
      induction l with
      | nil => simp [sumI]
      | cons i l ihl =>
        rw [List.flatMap_cons, List.map_append, sumI_append, ihl, List.map_cons, sumI, Int.add_mul, List.map_map]
        congr 1
        rw [← ih, ← sumI_mul, List.map_map]
        rfl
    rw [key, hp]
theorem lex_length : ∀ (N : List Nat), (lexList N).length = prodN N
  | [] => rfl
  | n :: N => by
    simp only [lexList, prodN]
    have key : ∀ (l : List Nat), (l.flatMap fun i => (lexList N).map (i :: ·)).length = l.length * prodN N := by
      intro l
      induction l with
      | nil => simp
      | cons i l ih => rw [List.flatMap_cons, List.length_append, ih, List.length_map, lex_length N, List.length_cons, Nat.add_mul, Nat.one_mul, Nat.add_comm]
    rw [key, List.length_range]
theorem lex_mem : ∀ (N s : List Nat), s ∈ lexList N → s.length = N.length ∧ ∀ d, d < N.length → s.getD d 0 < N.getD d 0
  | [], s, h => by simp [lexList] at h; subst h; simp
  | n :: N, s, h => by
    simp only [lexList, List.mem_flatMap, List.mem_range, List.mem_map] at h
    obtain ⟨i, hi, t, ht, rfl⟩ := h
    have := lex_mem N t ht
    refine ⟨by simp [this.1], fun d hd => ?_⟩
    cases d with
    | zero => simpa using hi
    | succ d => simpa using this.2 d (by simpa using hd)
theorem rd_ints (s : List Nat) (i : Nat) : rd (ints s) (i : Int) = (s.getD i 0 : Nat) := by
  simp only [rd, ints]
  rcases Nat.lt_or_ge i s.length with h | h
  · simp [List.getD_eq_getElem?_getD, h]
  · simp [List.getD_eq_getElem?_getD, h]
theorem ints_set (s : List Nat) (i x : Nat) : (ints s).set i (x : Int) = ints (s.set i x) := by
  simp only [ints]
  rw [List.map_set]
  rfl
theorem next_l0 (N : List Nat) : ∀ (m : Nat) (s : List Nat), s.length = N.length → m ≤ s.length → s.length ≤ 4 → (∀ d, s.getD d 0 ≤ 1048576) → Ev (fun k => slabvaultlaw13_next.l0 k (ints s) (ints N) ((m : Int) - 1)) ((odoGo N s m).2, ints (odoGo N s m).1)
  | 0, s, h, hm, h4, hb => by
    refine Ev.step (f := fun _ => some (false, ints s)) (fun k => ?_) (Ev.now _)
    simp only [slabvaultlaw13_next.l0]
    rw [if_neg (by omega)]
  | m + 1, s, h, hm, h4, hb => by
    have e1 : ((m + 1 : Nat) : Int) - 1 = (m : Int) := by omega
    have hl : (ints s).length = s.length := by simp [ints]
    have hlN : (ints N).length = N.length := by simp [ints]
    have hbm := hb m
    have e2 : wrap64 (rd (ints s) (m : Int) + 1) = ((s.getD m 0 + 1 : Nat) : Int) := by rw [rd_ints]; unfold wrap64; omega
    have e3 : rd (ints (s.set m (s.getD m 0 + 1))) (m : Int) = ((s.getD m 0 + 1 : Nat) : Int) := by
      rw [rd_ints]
      simp [List.getD_eq_getElem?_getD, show m < s.length by omega]
    have e4 : ∀ x : Nat, ((ints (s.set m x)).set m (0 : Int)) = ints (s.set m 0) := by
      intro x
      have := ints_set (s.set m x) m 0
      rw [List.set_set] at this
      exact this
    rw [e1]
    simp only [odoGo]
    by_cases c : s.getD m 0 + 1 < N.getD m 0
    · rw [if_pos c]
      refine Ev.step (f := fun _ => some (true, ints (s.set m (s.getD m 0 + 1)))) (fun k => ?_) (Ev.now _)
      simp only [slabvaultlaw13_next.l0]
      rw [if_pos (by omega), if_pos (by omega), if_pos (by omega), e2, Int.toNat_natCast, ints_set]
      simp only [Option.bind_some]
      rw [if_pos (by omega), e3, rd_ints, if_pos (by omega)]
    · rw [if_neg c]
      refine Ev.step (f := fun k => slabvaultlaw13_next.l0 k (ints (s.set m 0)) (ints N) ((m : Int) - 1)) (fun k => ?_) (next_l0 N m (s.set m 0) (by simpa using h) (by simp; omega) (by simpa using h4) (fun d => getD_set_le s m 0 1048576 hb (by omega) d))
      simp only [slabvaultlaw13_next.l0]
      rw [if_pos (by omega), if_pos (by omega), if_pos (by omega), e2, Int.toNat_natCast, ints_set]
      simp only [Option.bind_some]
      rw [if_pos (by omega), e3, rd_ints, if_neg (by omega), e4, show wrap64 ((m : Int) - 1) = (m : Int) - 1 by unfold wrap64; omega]
theorem next_ev (N s : List Nat) (h : s.length = N.length) (h4 : s.length ≤ 4) (hb : ∀ d, s.getD d 0 ≤ 1048576) : Ev (fun k => slabvaultlaw13_next.f k (ints s) (ints N)) ((odoGo N s N.length).2, ints (odoGo N s N.length).1) := by
  unfold slabvaultlaw13_next.f
  have := next_l0 N N.length s h (by omega) h4 hb
  have e : wrap64 (((ints s).length : Int) - 1) = (N.length : Int) - 1 := by simp only [ints, List.length_map]; unfold wrap64; omega
  rw [e]
  exact this
theorem count_step {D H : Int} (hD : 1 ≤ D ∧ D ≤ 1048576) (hH : 1 ≤ H ∧ H ≤ 1048576) : wrap64 (Int.tdiv (wrap64 (wrap64 (D + H) - 1)) H) = (cntI D H : Int) := by
  have h1 : wrap64 (wrap64 (D + H) - 1) = D + H - 1 := by unfold wrap64; omega
  have hb := cnt_bounds hD.1 hH.1
  have e : (cntI D H : Int) = (D + H - 1) / H := by
    have : 0 ≤ (D + H - 1) / H := Int.ediv_nonneg (by omega) (by omega)
    unfold cntI; omega
  rw [h1, Int.tdiv_eq_ediv_of_nonneg (by omega), ← e]
  unfold wrap64; omega
structure Full (D H : List Int) : Prop where
  good : Good D H
  pos : ∀ x ∈ D, 1 ≤ x
theorem Full.dim {D H : List Int} (h : Full D H) (i : Nat) (hi : i < D.length) : 1 ≤ rd D i ∧ rd D i ≤ 1048576 := by
  have := h.good.dims i hi
  have h2 := h.pos _ (List.getElem_mem hi)
  rw [← rd_nat D i hi] at h2
  omega
theorem Full.shapes {D H : List Int} (h : Full D H) : ∀ x ∈ H, 1 ≤ x := by
  intro x hx
  obtain ⟨i, hi, rfl⟩ := List.getElem_of_mem hx
  rw [← rd_nat H i hi]
  exact (h.good.shape i (by have := h.good.same; omega)).1
theorem cntL_drop {D H : List Int} (hs : H.length = D.length) (i : Nat) (hi : i < D.length) : cntL (D.drop i) (H.drop i) = cntI (rd D i) (rd H i) :: cntL (D.drop (i + 1)) (H.drop (i + 1)) := by
  rw [List.drop_eq_getElem_cons hi, List.drop_eq_getElem_cons (show i < H.length by omega), cntL, rd_nat D i hi, rd_nat H i (by omega)]
theorem prodI_drop {D : List Int} (i : Nat) (hi : i < D.length) : prodI (D.drop i) = rd D i * prodI (D.drop (i + 1)) := by
  rw [List.drop_eq_getElem_cons hi, prodI, rd_nat D i hi]
theorem counts_l0 (D H : List Int) (hf : Full D H) : ∀ (d i : Nat) (x : List Int), D.length - i = d → i ≤ D.length → x.length ≤ i → Ev (fun k => slabvaultlaw13_counts.l0 k D H x i) (x ++ ints (cntL (D.drop i) (H.drop i))) := by
  have h4 := hf.good.len
  have hs := hf.good.same
  intro d
  induction d with
  | zero =>
    intro i x h hi hx
    refine Ev.step (f := fun _ => some x) (fun k => ?_) ?_
    · simp only [slabvaultlaw13_counts.l0]
      rw [if_neg (by omega)]
    · rw [List.drop_eq_nil_of_le (by omega)]
      simp only [cntL, ints, List.map_nil, List.append_nil]
      exact Ev.now _
  | succ d ih =>
    intro i x h hi hx
    have hlt : i < D.length := by omega
    have hH := hf.good.shape i hlt
    have hD := hf.dim i hlt
    refine Ev.step (f := fun k => slabvaultlaw13_counts.l0 k D H (x ++ [(cntI (rd D i) (rd H i) : Int)]) ((i + 1 : Nat) : Int)) (fun k => ?_) ?_
    · simp only [slabvaultlaw13_counts.l0]
      rw [if_pos (by omega), if_pos (by omega), if_pos (by omega), if_neg (by omega), if_pos (by omega), count_step hD hH, wrap_up hlt (by omega)]
    · have := ih (i + 1) (x ++ [(cntI (rd D i) (rd H i) : Int)]) (by omega) (by omega) (by simp; omega)
      rw [cntL_drop hs i hlt]
      simpa [ints] using this
theorem counts_ev (D H : List Int) (hf : Full D H) : Ev (fun k => slabvaultlaw13_counts.f k D H) (ints (cntL D H)) := by
  unfold slabvaultlaw13_counts.f
  simpa using counts_l0 D H hf D.length 0 [] (by omega) (by omega) (by simp)
theorem mul_room {n a b p m : Int} (hn : 1 ≤ n) (ha : 1 ≤ a) (hab : a ≤ b) (hp : 1 ≤ p) (h : n * (b * p) ≤ m) : 1 ≤ n * a ∧ n * a ≤ m ∧ (n * a) * p ≤ m := by
  have h1 : 1 * 1 ≤ n * a := Int.mul_le_mul hn ha (by omega) (by omega)
  have h2 : n * a ≤ n * b := Int.mul_le_mul_of_nonneg_left hab (by omega)
  have h3 : n * a * p ≤ n * b * p := Int.mul_le_mul_of_nonneg_right h2 (by omega)
  have h4 : n * a * 1 ≤ n * a * p := Int.mul_le_mul_of_nonneg_left hp (by omega)
  rw [← Int.mul_assoc] at h
  omega
theorem chunkL_eq (D H : List Int) (hf : Full D H) : ∀ (d i : Nat) (n : Int), D.length - i = d → i ≤ D.length → 1 ≤ n → n * prodI (D.drop i) ≤ 1048576 → chunkL D H d i n = n * (prodN (cntL (D.drop i) (H.drop i)) : Nat) := by
  have hs := hf.good.same
  intro d
  induction d with
  | zero =>
    intro i n h hi _ _
    rw [List.drop_eq_nil_of_le (by omega)]
    simp [chunkL, cntL, prodN]
  | succ d ih =>
    intro i n h hi hn hp
    have hlt : i < D.length := by omega
    have hH := hf.good.shape i hlt
    have hD := hf.dim i hlt
    have hb := cnt_bounds hD.1 hH.1
    have hpp := prodI_pos (D.drop (i + 1)) (fun x hx => hf.pos x (List.mem_of_mem_drop hx))
    rw [prodI_drop i hlt] at hp
    have hr := mul_room hn (show (1 : Int) ≤ (cntI (rd D i) (rd H i) : Int) by omega) hb.2.1 hpp hp
    rw [chunkL, count_step hD hH, show wrap64 (n * (cntI (rd D i) (rd H i) : Int)) = n * (cntI (rd D i) (rd H i) : Int) by unfold wrap64; omega]
    rw [ih (i + 1) _ (by omega) (by omega) hr.1 hr.2.2, cntL_drop hs i hlt, prodN]
    push_cast
    rw [Int.mul_assoc]
theorem prodLoop_eq (D : List Int) : ∀ (d i : Nat) (n p : Int), D.length - i = d → i ≤ D.length → n ≤ 1048576 → prodLoop D d i n = (p, 0) → p = n * prodI (D.drop i) ∧ p ≤ 1048576 := by
  intro d
  induction d with
  | zero =>
    intro i n p h hi hn hp
    rw [List.drop_eq_nil_of_le (by omega)]
    cases hp
    simp [prodI]; omega
  | succ d ih =>
    intro i n p h hi hn hp
    have hlt : i < D.length := by omega
    rw [prodLoop] at hp
    split at hp
    · simp at hp
    · have := ih (i + 1) _ p (by omega) (by omega) (by omega) hp
      rw [prodI_drop i hlt, ← Int.mul_assoc]
      exact this
theorem chunkL_nought (D H : List Int) : ∀ (d i : Nat), chunkL D H d i 0 = 0 := by
  intro d
  induction d with
  | zero => intro i; rfl
  | succ d ih => intro i; rw [chunkL, Int.zero_mul, show wrap64 0 = 0 by simp [wrap64]]; exact ih _
theorem chunkL_dims (D H : List Int) (hg : Good D H) : ∀ (d i : Nat) (n : Int), D.length - i = d → chunkL D H d i n ≠ 0 → ∀ j : Nat, i ≤ j → j < D.length → 1 ≤ rd D j := by
  intro d
  induction d with
  | zero => intro i n h hn j h1 h2; omega
  | succ d ih =>
    intro i n h hn j h1 h2
    rw [chunkL] at hn
    rcases Nat.lt_or_ge i j with hlt | hge
    · exact ih (i + 1) _ (by omega) hn j (by omega) h2
    · have : j = i := by omega
      subst this
      have hD := hg.dims j h2
      have hH := hg.shape j h2
      rcases Int.lt_or_le (rd D j) 1 with hz | hz
      · exfalso
        have h0 : rd D j = 0 := by omega
        apply hn
        have h3 : wrap64 (wrap64 (rd D j + rd H j) - 1) = rd H j - 1 := by rw [h0]; unfold wrap64; omega
        have h4 : Int.tdiv (rd H j - 1) (rd H j) = 0 := Int.tdiv_eq_zero_of_lt (by omega) (by omega)
        rw [h3, h4]
        have : wrap64 (n * wrap64 0) = 0 := by simp [wrap64]
        rw [this]
        exact chunkL_nought _ _ _ _
      · exact hz
end Go.Proofs.Ytjbjofmcmjojlab.Pure
end
section
namespace Go.Proofs.Ytjbjofmcmjojlab.Pure
open Go.RowKit Go.Proofs.Ytjbjofmcmjojlab.Wk Go.Proofs.YtjbjofmcmjojlabW.PrintWords Go.Proofs.YtjbjofmcmjojlabW.PrintLast Go.Proofs.YtjbjofmcmjojlabW.PrintMore Go.Proofs.YtjbjofmcmjojlabQ
theorem rd_clipS (D H c : List Int) (i : Nat) (hi : i < D.length) : rd (clipS D H c 0) (i : Int) = clipAt (rd D i) (rd H i) (rd c i) := by
  have hl : i < (clipS D H c 0).length := by simp [clipS]; omega
  rw [rd_nat _ i hl]
  simp [clipS]
theorem rd_clipP (D H c : List Int) (i : Nat) (hi : i < D.length) : rd (clipP D H c 0) (i : Int) = mn (rd H i) (rd D i - clipAt (rd D i) (rd H i) (rd c i)) := by
  have hl : i < (clipP D H c 0).length := by simp [clipP]; omega
  rw [rd_nat _ i hl]
  simp [clipP]
theorem clipS_length (D H c : List Int) : (clipS D H c 0).length = D.length := by simp [clipS]
theorem clipP_length (D H c : List Int) : (clipP D H c 0).length = D.length := by simp [clipP]
theorem clipT_ok {D H c : List Int} (h0 : fitT D H = 0) (hl : c.length = D.length) (hc : ∀ i : Nat, i < c.length → 0 ≤ rd c i) : clipT D H c = (clipS D H c 0, clipP D H c 0, 0) := by
  have hr : rightT c D.length = true := by
    simp only [rightT, Bool.and_eq_true, decide_eq_true_eq, Bool.not_eq_true', hl, true_and]
    apply Bool.eq_false_iff.2
    intro h
    obtain ⟨x, hx, hn⟩ := List.any_eq_true.1 h
    obtain ⟨i, hi, rfl⟩ := List.getElem_of_mem hx
    have := hc i hi
    rw [rd_nat c i hi] at this
    simp [negCoord] at hn
    omega
  unfold clipT
  rw [if_pos h0, if_pos hr]
theorem partL_drop {D H : List Int} {s : List Nat} (hs : H.length = D.length) (hn : s.length = D.length) (i : Nat) (hi : i < D.length) : partL (D.drop i) (H.drop i) (s.drop i) = mn (rd H i) (rd D i - (s.getD i 0 : Nat) * rd H i) * partL (D.drop (i + 1)) (H.drop (i + 1)) (s.drop (i + 1)) := by
  rw [List.drop_eq_getElem_cons hi, List.drop_eq_getElem_cons (show i < H.length by omega), List.drop_eq_getElem_cons (show i < s.length by omega), partL, rd_nat D i hi, rd_nat H i (by omega)]
  simp [List.getD_eq_getElem?_getD, show i < s.length by omega]
theorem last_loop (O I S Z : List Int) (h4 : O.length ≤ 4) (hI : I.length = O.length) (hS : S.length = O.length) (hZ : Z.length = O.length)
    (h : ∀ i : Nat, i < O.length → rd O i = wrap64 (rd S i + rd I i) ∧ rd I i < rd Z i) : ∀ (d i : Nat), O.length - i = d → i ≤ O.length → Ev (fun k => slabvaultlaw13_GridCovers.l4 k O I S Z i) true := by
  intro d
  induction d with
  | zero =>
    intro i hd hi
    refine Ev.step (f := fun _ => some true) (fun k => ?_) (Ev.now _)
    simp only [slabvaultlaw13_GridCovers.l4]
    rw [if_neg (by omega)]
    rfl
  | succ d ih =>
    intro i hd hi
    have hlt : i < O.length := by omega
    have hh := h i hlt
    refine Ev.step (f := fun k => slabvaultlaw13_GridCovers.l4 k O I S Z ((i + 1 : Nat) : Int)) (fun k => ?_) (ih (i + 1) (by omega) (by omega))
    simp only [slabvaultlaw13_GridCovers.l4]
    rw [if_pos (by omega), if_pos (by omega), if_pos (by omega), if_pos (by omega), if_pos hh.1, if_pos (by omega), if_neg (by omega), wrap_up hlt (by omega)]
theorem ofLoop_ok (A S : List Int) (h : ∀ i : Nat, i < A.length → 0 ≤ rd A i ∧ 1 ≤ rd S i ∧ rd S i ≤ 1048576) : ∀ (d i : Nat) (x y : List Int), A.length - i = d → i ≤ A.length → x.length = i → y.length = i →
    (∀ j : Nat, j < i → rd x j = rd A j / rd S j ∧ rd y j = rd A j % rd S j) → ∃ X Y, ofLoop A S d i x y = (X, Y, 0) ∧ X.length = A.length ∧ Y.length = A.length ∧ ∀ j : Nat, j < A.length → rd X j = rd A j / rd S j ∧ rd Y j = rd A j % rd S j := by
  intro d
  induction d with
  | zero =>
    intro i x y hd hi hx hy hj
    refine ⟨x, y, rfl, by omega, by omega, fun j h => hj j (by omega)⟩
  | succ d ih =>
    intro i x y hd hi hx hy hj
    have hlt : i < A.length := by omega
    have hh := h i hlt
    rw [ofLoop, if_neg (by omega)]
    refine ih (i + 1) _ _ (by omega) (by omega) (by simp; omega) (by simp; omega) (fun j h => ?_)
    have key : ∀ (l : List Int) (v : Int), l.length = i → rd (l ++ [v]) (j : Int) = if j < i then rd l j else v := by
      intro l v hl
      rw [rd_nat _ j (by simp; omega), List.getElem_append]
      split
      · rw [if_pos (by omega), rd_nat l j (by omega)]
      · rw [if_neg (by omega)]
        simp
    rw [key x _ hx, key y _ hy]
    split
    · exact hj j (by omega)
    · rw [show j = i by omega]; exact ⟨rfl, rfl⟩
theorem mod_in {a D : Int} (hD : 1 ≤ D ∧ D ≤ 1048576) : 0 ≤ Int.tmod (wrap64 (Int.tmod a D + D)) D ∧ Int.tmod (wrap64 (Int.tmod a D + D)) D < D := by
  have h1 := Int.tmod_lt_of_pos a (show 0 < D by omega)
  have h2 := Int.lt_tmod_of_pos a (show 0 < D by omega)
  have h3 : wrap64 (Int.tmod a D + D) = Int.tmod a D + D := by unfold wrap64; omega
  rw [h3]
  exact ⟨Int.tmod_nonneg _ (by omega), Int.tmod_lt_of_pos _ (by omega)⟩
theorem own_loop (D H A : List Int) (hf : Full D H) (h0 : fitT D H = 0) (hA : A.length = D.length) : ∀ (d i : Nat) (x : List Int), D.length - i = d → i ≤ D.length → x.length = D.length → (∀ j : Nat, j < i → 0 ≤ rd x j ∧ rd x j < rd D j) → Ev (fun k => slabvaultlaw13_GridCovers.l3 k D H A x i) true := by
  have h4 := hf.good.len
  have hs := hf.good.same
  have hml : maxLen = 9223372036854775807 := rfl
  intro d
  induction d with
  | zero =>
    intro i x hd hi hx hj
    have hi' : i = D.length := by omega
    subst hi'
    have hmax : ∀ y ∈ x, y ≤ 9223372036854775807 := by
      intro y hy
      obtain ⟨j, hjl, rfl⟩ := List.getElem_of_mem hy
      have h1 := hj j (by omega)
      have h2 := hf.dim j (by omega)
      rw [rd_nat x j hjl] at h1
      omega
    obtain ⟨X, Y, hXY, hX, hY, hv⟩ := ofLoop_ok x H (fun j hjl => ⟨(hj j (by omega)).1, hf.good.shape j (by omega)⟩) x.length 0 [] [] (by omega) (by omega) rfl rfl (by intro j h; omega)
    have hof : ofT x H = (X, Y, 0) := by unfold ofT; rw [if_neg (by omega), hXY]
    have hX0 : ∀ j : Nat, j < X.length → 0 ≤ rd X j := by
      intro j hjl
      rw [(hv j (by omega)).1]
      exact Int.ediv_nonneg (hj j (by omega)).1 (by have := (hf.good.shape j (by omega)).1; omega)
    have hclip := clipT_ok h0 (show X.length = D.length by omega) hX0
    refine Ev.step (f := fun k => (grid_Of.f x H).bind fun b1 => (grid_Clip.f k D H b1.1).bind fun b2 => (if b1.2.2 = 0 then (if b2.2.2 = 0 then (if (b1.2.1.length : Int) = (x.length : Int) then (if (b2.1.length : Int) = (x.length : Int) then (slabvaultlaw13_GridCovers.j7 k x b1.2.1 b2.1 b2.2.1 ((b2.2.1.length : Int) != (x.length : Int))) else (slabvaultlaw13_GridCovers.j7 k x b1.2.1 b2.1 b2.2.1 true)) else (slabvaultlaw13_GridCovers.j7 k x b1.2.1 b2.1 b2.2.1 true)) else (slabvaultlaw13_GridCovers.j7 k x b1.2.1 b2.1 b2.2.1 true)) else (slabvaultlaw13_GridCovers.j7 k x b1.2.1 b2.1 b2.2.1 true))) (fun k => ?_) ?_
    · simp only [slabvaultlaw13_GridCovers.l3]
      rw [if_neg (by omega)]
    rw [of_eq x H hmax (by omega) (by omega), hof]
    simp only [Option.bind_some]
    have hc := clip_ev D H X (by omega) (by omega)
    rw [hclip] at hc
    refine Ev.bind hc ?_
    have l1 := clipS_length D H X
    have l2 := clipP_length D H X
    have eq : (((clipP D H X 0).length : Int) != (x.length : Int)) = false := by simpa using (show (((clipP D H X 0).length : Int) = (x.length : Int)) by omega)
    have q1 : ((Y.length : Int) = (x.length : Int)) := by omega
    have q2 : (((clipS D H X 0).length : Int) = (x.length : Int)) := by omega
    simp only [if_true, if_pos q1, if_pos q2, eq]
    refine Ev.step (f := fun k => slabvaultlaw13_GridCovers.l4 k x Y (clipS D H X 0) (clipP D H X 0) ((0 : Nat) : Int)) (fun k => ?_) (last_loop x Y _ _ (by omega) (by omega) (by omega) (by omega) (fun j hjl => ?_) x.length 0 (by omega) (by omega))
    · simp only [slabvaultlaw13_GridCovers.j7]
      rfl
    · have hD := hf.dim j (by omega)
      have hH := hf.good.shape j (by omega)
      have hx0 := hj j (by omega)
      rw [rd_clipS D H X j (by omega), rd_clipP D H X j (by omega), (hv j hjl).1, (hv j hjl).2]
      generalize rd x (j : Int) = o at *
      generalize rd D (j : Int) = dd at *
      generalize rd H (j : Int) = hh at *
      have e1 := Int.ediv_mul_add_emod o hh
      have e2 := Int.emod_nonneg o (show hh ≠ 0 by omega)
      have e3 := Int.emod_lt_of_pos o (show 0 < hh by omega)
      have e4 : clipAt dd hh (o / hh) = o / hh * hh := by unfold clipAt; rw [if_pos (by omega)]
      rw [e4]
      generalize o / hh * hh = q at *
      generalize o % hh = m at *
      refine ⟨by unfold wrap64; omega, by unfold mn; split <;> omega⟩
  | succ d ih =>
    intro i x hd hi hx hj
    have hlt : i < D.length := by omega
    have hD := hf.dim i hlt
    refine Ev.step (f := fun k => slabvaultlaw13_GridCovers.l3 k D H A (x.set i (Int.tmod (wrap64 (Int.tmod (rd A i) (rd D i) + rd D i)) (rd D i))) ((i + 1 : Nat) : Int)) (fun k => ?_) (ih (i + 1) _ (by omega) (by omega) (by simpa using hx) (fun j hji => ?_))
    · simp only [slabvaultlaw13_GridCovers.l3]
      rw [if_pos (by omega), if_pos (by omega), if_pos (by omega), if_neg (by omega), if_pos (by omega), wrap_up hlt (by omega), Int.toNat_natCast]
    · have hmod := mod_in (a := rd A i) hD
      rw [rd_nat _ j (by simp; omega), List.getElem_set]
      by_cases c : i = j
      · subst c
        rw [if_pos rfl]
        exact hmod
      · rw [if_neg c, ← rd_nat x j (by omega)]
        exact hj j (by omega)
theorem part_pos {D H : List Int} (hf : Full D H) {s : List Nat} (hs : s ∈ lexList (cntL D H)) (i : Nat) (hi : i < D.length) : s.length = D.length ∧ s.getD i 0 ≤ 1048576 ∧ 1 ≤ mn (rd H i) (rd D i - (s.getD i 0 : Nat) * rd H i) ∧ mn (rd H i) (rd D i - (s.getD i 0 : Nat) * rd H i) ≤ rd D i ∧
    clipAt (rd D i) (rd H i) (s.getD i 0 : Nat) = (s.getD i 0 : Nat) * rd H i ∧ 0 ≤ (s.getD i 0 : Nat) * rd H i ∧ (s.getD i 0 : Nat) * rd H i < rd D i := by
  have hlen : (cntL D H).length = D.length ∧ ∀ j : Nat, j < D.length → (cntL D H).getD j 0 = cntI (rd D j) (rd H j) := by
    have h1 := hf.good.same
    clear hf hs hi
    induction D generalizing H with
    | nil => cases H <;> simp [cntL]
    | cons d D ih =>
      cases H with
      | nil => simp at h1
      | cons h H =>
        have h2 := ih (H := H) (by simpa using h1)
        refine ⟨by simp [cntL, h2.1], fun j hj => ?_⟩
        cases j with
        | zero => simp [cntL, rd]
        | succ j =>
          have h3 := h2.2 j (by simpa using hj)
          simp only [cntL, List.getD_cons_succ, h3]
          have e : ∀ (x : Int) (l : List Int), rd (x :: l) ((j + 1 : Nat) : Int) = rd l (j : Int) := by
            intro x l
            simp [rd]
          rw [e, e]
  have hm := lex_mem _ _ hs
  have hD := hf.dim i hi
  have hH := hf.good.shape i hi
  have hb := cnt_bounds hD.1 hH.1
  have hlt := hm.2 i (by omega)
  rw [hlen.2 i hi] at hlt
  have hle : (s.getD i 0 : Nat) * rd H i ≤ ((cntI (rd D i) (rd H i) : Int) - 1) * rd H i := Int.mul_le_mul_of_nonneg_right (by omega) (by omega)
  have h0 : 0 ≤ (s.getD i 0 : Nat) * rd H i := Int.mul_nonneg (by omega) (by omega)
  refine ⟨by omega, by omega, ?_, ?_, ?_, h0, by omega⟩
  · unfold mn; split <;> omega
  · unfold mn; split <;> omega
  · unfold clipAt; rw [if_pos (by omega)]
theorem part_loop (D H A : List Int) (hf : Full D H) (n tot seen : Int) (s : List Nat) (hs : s ∈ lexList (cntL D H)) {r : Bool} : ∀ (d i : Nat) (p : Int), D.length - i = d → i ≤ D.length → 1 ≤ p → p * prodI (D.drop i) ≤ 1048576 →
    Ev (fun k => (slabvaultlaw13_counts.f k D H).bind fun t => (slabvaultlaw13_next.f k (ints s) t).bind fun b => slabvaultlaw13_GridCovers.l1 k D H A n (wrap64 (tot + p * partL (D.drop i) (H.drop i) (s.drop i))) (wrap64 (seen + 1)) b.2 b.1) r →
    Ev (fun k => slabvaultlaw13_GridCovers.l2 k D H A n tot seen (ints s) (clipS D H (ints s) 0) (clipP D H (ints s) 0) p i) r := by
  have h4 := hf.good.len
  have hsm := hf.good.same
  have l1 := clipS_length D H (ints s)
  have l2 := clipP_length D H (ints s)
  intro d
  induction d with
  | zero =>
    intro i p hd hi hp hr hk
    rw [List.drop_eq_nil_of_le (by omega)] at hk
    simp only [partL, Int.mul_one] at hk
    refine Ev.step (fun k => ?_) hk
    simp only [slabvaultlaw13_GridCovers.l2]
    rw [if_neg (by omega)]
  | succ d ih =>
    intro i p hd hi hp hr hk
    have hlt : i < D.length := by omega
    have hD := hf.dim i hlt
    have hH := hf.good.shape i hlt
    have hpp := part_pos hf hs i hlt
    have hsl : (ints s).length = D.length := by simp [ints, hpp.1]
    have hq := prodI_pos (D.drop (i + 1)) (fun x hx => hf.pos x (List.mem_of_mem_drop hx))
    rw [prodI_drop i hlt] at hr
    have hroom := mul_room hp hpp.2.2.1 hpp.2.2.2.1 hq hr
    rw [partL_drop hsm hpp.1 i hlt, ← Int.mul_assoc] at hk
    refine Ev.step (f := fun k => slabvaultlaw13_GridCovers.l2 k D H A n tot seen (ints s) (clipS D H (ints s) 0) (clipP D H (ints s) 0) (p * mn (rd H i) (rd D i - (s.getD i 0 : Nat) * rd H i)) ((i + 1 : Nat) : Int)) (fun k => ?_) (ih (i + 1) _ (by omega) (by omega) hroom.1 hroom.2.2 hk)
    simp only [slabvaultlaw13_GridCovers.l2]
    have e1 : rd (clipP D H (ints s) 0) (i : Int) = mn (rd H i) (rd D i - (s.getD i 0 : Nat) * rd H i) := by rw [rd_clipP D H _ i hlt, rd_ints, hpp.2.2.2.2.1]
    have e2 : rd (clipS D H (ints s) 0) (i : Int) = (s.getD i 0 : Nat) * rd H i := by rw [rd_clipS D H _ i hlt, rd_ints, hpp.2.2.2.2.1]
    rw [e1, e2, rd_ints]
    generalize hgm : mn (rd H i) (rd D i - (s.getD i 0 : Nat) * rd H i) = m at *
    have hm2 : (s.getD i 0 : Nat) * rd H i + m ≤ rd D i := by rw [← hgm]; unfold mn; split <;> omega
    generalize ((s.getD i 0 : Nat) : Int) * rd H i = q at *
    rw [if_pos (by omega), if_pos (by omega), if_pos (by omega), if_neg (by omega), if_pos (by omega), if_pos (by omega), if_pos (by omega), if_pos (by unfold wrap64; omega), if_neg (by unfold wrap64; omega), wrap_up hlt (by omega), show wrap64 (p * m) = p * m by unfold wrap64; omega]
theorem part_le (D H : List Int) (hf : Full D H) (s : List Nat) (hs : s ∈ lexList (cntL D H)) : ∀ (d i : Nat), D.length - i = d → i ≤ D.length → 1 ≤ partL (D.drop i) (H.drop i) (s.drop i) ∧ partL (D.drop i) (H.drop i) (s.drop i) ≤ prodI (D.drop i) := by
  have hsm := hf.good.same
  intro d
  induction d with
  | zero => intro i hd hi; rw [List.drop_eq_nil_of_le (by omega)]; simp [partL, prodI]
  | succ d ih =>
    intro i hd hi
    have hlt : i < D.length := by omega
    have hpp := part_pos hf hs i hlt
    have h1 := ih (i + 1) (by omega) (by omega)
    rw [partL_drop hsm hpp.1 i hlt, prodI_drop i hlt]
    have a := Int.mul_le_mul hpp.2.2.1 h1.1 (by omega) (by omega)
    have b := Int.mul_le_mul hpp.2.2.2.1 h1.2 (by omega) (by omega)
    omega
theorem own_start (D H A : List Int) (hf : Full D H) (h0 : fitT D H = 0) : Ev (fun k => slabvaultlaw13_GridCovers.j5 k D H A false) true := by
  have h4 := hf.good.len
  by_cases hA : A.length = D.length
  · refine Ev.step (f := fun k => slabvaultlaw13_GridCovers.l3 k D H A (List.replicate D.length 0) ((0 : Nat) : Int)) (fun k => ?_) (own_loop D H A hf h0 hA D.length 0 _ (by omega) (by omega) (by simp) (by intro j h; omega))
    simp only [slabvaultlaw13_GridCovers.j5]
    rw [if_neg (by simp), if_pos (by omega), if_pos (by omega), if_pos (by omega), Int.toNat_natCast]
    rfl
  · refine Ev.step (f := fun _ => some true) (fun k => ?_) (Ev.now _)
    simp only [slabvaultlaw13_GridCovers.j5]
    rw [if_neg (by simp), if_neg (by omega)]
    rfl
theorem all_loop (D H A : List Int) (hf : Full D H) (h0 : fitT D H = 0) (hp : elemsT D = (prodI D, 0)) (hp2 : prodI D ≤ 1048576) (n : Int) {s : List Nat} {l : List (List Nat)} (ho : Odo (cntL D H) s l) :
    ∀ (tot seen : Int), (∀ t ∈ l, t ∈ lexList (cntL D H)) → 0 ≤ tot → 0 ≤ seen → seen + l.length ≤ 1048576 → tot + sumI (l.map (partL D H)) = prodI D → seen + l.length = n →
      Ev (fun k => slabvaultlaw13_GridCovers.l1 k D H A n tot seen (ints s) true) true := by
  have h4 := hf.good.len
  have hsm := hf.good.same
  have hml : maxLen = 9223372036854775807 := rfl
  have enter : ∀ (s : List Nat) (tot seen : Int), s ∈ lexList (cntL D H) → Ev (fun k => (slabvaultlaw13_counts.f k D H).bind fun t => (slabvaultlaw13_next.f k (ints s) t).bind fun b => slabvaultlaw13_GridCovers.l1 k D H A n (wrap64 (tot + partL D H s)) (wrap64 (seen + 1)) b.2 b.1) true →
      Ev (fun k => slabvaultlaw13_GridCovers.l1 k D H A n tot seen (ints s) true) true := by
    intro s tot seen hs hk
    have hlen : s.length = D.length := by
      have hm := lex_mem _ _ hs
      have : (cntL D H).length = D.length := by
        clear hk hs hm hf h0 hp hp2 h4 ho
        induction D generalizing H with
        | nil => cases H <;> simp [cntL]
        | cons d D ih =>
          cases H with
          | nil => simp at hsm
          | cons h H => simp [cntL, ih H (by simpa using hsm)]
      omega
    have hclip := clipT_ok h0 (show (ints s).length = D.length by simp [ints, hlen]) (fun i hi => by rw [rd_ints]; omega)
    have hc := clip_ev D H (ints s) (by omega) (by simp [ints]; omega)
    rw [hclip] at hc
    have l1 := clipS_length D H (ints s)
    have l2 := clipP_length D H (ints s)
    have eq : (((clipP D H (ints s) 0).length : Int) != (D.length : Int)) = false := by simpa using (show (((clipP D H (ints s) 0).length : Int) = (D.length : Int)) by omega)
    refine Ev.step (f := fun k => (grid_Clip.f k D H (ints s)).bind fun b => (if b.2.2 = 0 then (if (b.1.length : Int) = (D.length : Int) then (slabvaultlaw13_GridCovers.j3 k D H A n tot seen (ints s) b.1 b.2.1 ((b.2.1.length : Int) != (D.length : Int))) else (slabvaultlaw13_GridCovers.j3 k D H A n tot seen (ints s) b.1 b.2.1 true)) else (slabvaultlaw13_GridCovers.j3 k D H A n tot seen (ints s) b.1 b.2.1 true))) (fun k => ?_) ?_
    · simp only [slabvaultlaw13_GridCovers.l1]
      rw [if_true]
    refine Ev.bind hc ?_
    have q1 : (((clipS D H (ints s) 0).length : Int) = (D.length : Int)) := by omega
    simp only [if_true, if_pos q1, eq]
    refine Ev.step (f := fun k => slabvaultlaw13_GridCovers.l2 k D H A n tot seen (ints s) (clipS D H (ints s) 0) (clipP D H (ints s) 0) 1 ((0 : Nat) : Int)) (fun k => ?_) (part_loop D H A hf n tot seen s hs D.length 0 1 (by omega) (by omega) (by omega) (by simpa using hp2) (by simpa using hk))
    simp only [slabvaultlaw13_GridCovers.j3]
    rfl
  induction ho with
  | @last s hn =>
    intro tot seen hin ht hs hb htot hseen
    have hsin := hin s (by simp)
    refine enter s tot seen hsin (Ev.bind (counts_ev D H hf) ?_)
    have hm := lex_mem _ _ hsin
    have hpl := part_le D H hf s hsin D.length 0 (by omega) (by omega)
    simp only [List.drop_zero] at hpl
    have hlen : s.length ≤ 4 := by
      have := hm.1
      rcases Nat.eq_zero_or_pos D.length with hz | hz
      · have hDn : D = [] := List.eq_nil_of_length_eq_zero hz
        subst hDn
        simp [cntL] at this
        simp [this]
      · have := (part_pos hf hsin 0 hz).1; omega
    have hdig : ∀ d, s.getD d 0 ≤ 1048576 := by
      intro d
      rcases Nat.lt_or_ge d D.length with hd | hd
      · exact (part_pos hf hsin d hd).2.1
      · have : s.length ≤ d := by
          rcases Nat.eq_zero_or_pos D.length with hz | hz
          · have hDn : D = [] := List.eq_nil_of_length_eq_zero hz
            subst hDn
            have := hm.1
            simp [cntL] at this
            simp [this]
          · have := (part_pos hf hsin 0 hz).1; omega
        simp [List.getD_eq_getElem?_getD, this]
    refine Ev.bind (next_ev _ s hm.1 hlen hdig) ?_
    have hoff : (odoGo (cntL D H) s (cntL D H).length).2 = false := by
      rw [odoNext_go] at hn
      split at hn
      · cases hn
      · rename_i h; simpa using h
    simp only [hoff, List.map_cons, List.map_nil, sumI, List.length_singleton] at *
    refine Ev.step (f := fun k => (slabvaultref12_Elements.f k D).bind fun b => (if wrap64 (tot + partL D H s) = b.1 then (slabvaultlaw13_GridCovers.j5 k D H A (wrap64 (seen + 1) != n)) else (slabvaultlaw13_GridCovers.j5 k D H A true))) (fun k => ?_) ?_
    · simp only [slabvaultlaw13_GridCovers.l1]
      rfl
    refine Ev.bind (refElements_ev D (by omega)) ?_
    have e1 : wrap64 (tot + partL D H s) = prodI D := by unfold wrap64; omega
    have e2 : (wrap64 (seen + 1) != n) = false := by simpa using (show wrap64 (seen + 1) = n by unfold wrap64; omega)
    rw [hp, e1, e2]
    simp only [if_true]
    exact own_start D H A hf h0
  | @more s s' l hn ho' ih =>
    intro tot seen hin ht hs hb htot hseen
    have hsin := hin s (by simp)
    refine enter s tot seen hsin (Ev.bind (counts_ev D H hf) ?_)
    have hm := lex_mem _ _ hsin
    have hpl := part_le D H hf s hsin D.length 0 (by omega) (by omega)
    simp only [List.drop_zero] at hpl
    have hz : 0 < D.length := by
      rcases Nat.eq_zero_or_pos D.length with hz | hz
      · have hDn : D = [] := List.eq_nil_of_length_eq_zero hz
        subst hDn
        simp [cntL, odoNext] at hn
      · exact hz
    have hlen := (part_pos hf hsin 0 hz).1
    have hdig : ∀ d, s.getD d 0 ≤ 1048576 := by
      intro d
      rcases Nat.lt_or_ge d D.length with hd | hd
      · exact (part_pos hf hsin d hd).2.1
      · simp [List.getD_eq_getElem?_getD, show s.length ≤ d by omega]
    refine Ev.bind (next_ev _ s hm.1 (by omega) hdig) ?_
    have hon : (odoGo (cntL D H) s (cntL D H).length).2 = true ∧ (odoGo (cntL D H) s (cntL D H).length).1 = s' := by
      rw [odoNext_go] at hn
      split at hn
      · rename_i h; exact ⟨h, by simpa using hn⟩
      · cases hn
    simp only [hon.1, hon.2, List.map_cons, sumI, List.length_cons] at *
    have hsum : 0 ≤ sumI (l.map (partL D H)) := by
      have : ∀ (l : List (List Nat)), (∀ t ∈ l, t ∈ lexList (cntL D H)) → 0 ≤ sumI (l.map (partL D H)) := by
        intro l
        induction l with
        | nil => intro _; simp [sumI]
        | cons t l ihl =>
          intro hh
          have h1 := ihl (fun x hx => hh x (List.mem_cons_of_mem _ hx))
          have h2 := part_le D H hf t (hh t List.mem_cons_self) D.length 0 (by omega) (by omega)
          simp only [List.drop_zero] at h2
          simp only [List.map_cons, sumI]
          omega
      exact this l (fun t ht => hin t (List.mem_cons_of_mem _ ht))
    rw [show wrap64 (tot + partL D H s) = tot + partL D H s by unfold wrap64; omega, show wrap64 (seen + 1) = seen + 1 by unfold wrap64; omega]
    exact ih (tot + partL D H s) (seen + 1) (fun t ht => hin t (List.mem_cons_of_mem _ ht)) (by omega) (by omega) (by omega) (by omega) (by omega)
theorem cntL_pos : ∀ (D H : List Int), H.length = D.length → (∀ x ∈ D, 1 ≤ x) → (∀ x ∈ H, 1 ≤ x) → (cntL D H).length = D.length ∧ ∀ d, d < (cntL D H).length → 0 < (cntL D H).getD d 0
  | [], [], _, _, _ => by simp [cntL]
  | d :: D, h :: H, hs, hD, hH => by
    have hi := cntL_pos D H (by simpa using hs) (fun x hx => hD x (List.mem_cons_of_mem _ hx)) (fun x hx => hH x (List.mem_cons_of_mem _ hx))
    refine ⟨by simp [cntL, hi.1], fun j hj => ?_⟩
    cases j with
    | zero =>
      have := cnt_bounds (hD d List.mem_cons_self) (hH h List.mem_cons_self)
      simp only [cntL, List.getD_cons_zero]
      omega
    | succ j => simpa [cntL] using hi.2 j (by simpa [cntL] using hj)
theorem good_loop (D H A : List Int) (hf : Full D H) (n : Int) (hk : Ev (fun k => slabvaultlaw13_GridCovers.l1 k D H A n 0 0 (List.replicate D.length 0) true) true) : ∀ (d i : Nat), D.length - i = d → i ≤ D.length → Ev (fun k => slabvaultlaw13_GridCovers.l0 k D H A n i) true := by
  have h4 := hf.good.len
  have hsm := hf.good.same
  intro d
  induction d with
  | zero =>
    intro i hd hi
    refine Ev.step (fun k => ?_) hk
    simp only [slabvaultlaw13_GridCovers.l0]
    rw [if_neg (by omega), if_pos (by omega), if_pos (by omega), Int.toNat_natCast]
  | succ d ih =>
    intro i hd hi
    have hlt : i < D.length := by omega
    have hD := hf.dim i hlt
    have hH := hf.good.shape i hlt
    refine Ev.step (f := fun k => slabvaultlaw13_GridCovers.l0 k D H A n ((i + 1 : Nat) : Int)) (fun k => ?_) (ih (i + 1) (by omega) (by omega))
    simp only [slabvaultlaw13_GridCovers.l0]
    rw [if_pos (by omega), if_pos (by omega), if_pos (by omega), if_neg (by omega), if_neg (by omega), wrap_up hlt (by omega)]
theorem GridCovers : slabvaultlaw13_GridCovers.Pure := by
  intro D H A hD _ _ hH _ _ hA _ wA
  have hm : maxLen ≤ 9223372036854775807 := by unfold maxLen; omega
  refine Ev.rounds (g := fun k => slabvaultlaw13_GridCovers.f k D H A) (r := true) ?_
  unfold slabvaultlaw13_GridCovers.f
  refine Ev.bind (chunks_ev D H hH) ?_
  have away : ∀ (n e : Int), (e = 0 ∨ n = 0) → Ev (fun k => slabvaultlaw13_GridCovers.j0 k D H A n e true) true := by
    intro n e h
    refine Ev.step (f := fun _ => some true) (fun k => ?_) (Ev.now _)
    simp only [slabvaultlaw13_GridCovers.j0, if_true]
    by_cases he : e = 0
    · rw [if_pos he]; rfl
    · rw [if_neg he, if_pos (by omega)]; rfl
  by_cases h0 : fitT D H = 0
  case neg =>
    have e : chunksT D H = (0, fitT D H) := by unfold chunksT; rw [if_neg h0]
    rw [e]
    simp only [if_neg h0]
    exact away 0 _ (.inr rfl)
  have e : chunksT D H = (chunkL D H D.length 0 1, 0) := by unfold chunksT; rw [if_pos h0]
  rw [e]
  simp only [if_true]
  have hg := good_of_fit h0
  by_cases h1 : chunkL D H D.length 0 1 = 0
  · simp only [if_pos h1]
    exact away _ 0 (.inl rfl)
  simp only [if_neg h1]
  by_cases h2 : chunkL D H D.length 0 1 > 300
  · simp only [if_pos h2]
    exact away _ 0 (.inl rfl)
  simp only [if_neg h2]
  have hw : Ev (fun k => slabvaultlaw13_wide.f k D) (decide ((elemsT D).1 > 3000)) := by
    unfold slabvaultlaw13_wide.f
    exact Ev.bind (refElements_ev D (by omega)) (Ev.now _)
  refine Ev.bind hw ?_
  by_cases h3 : (elemsT D).1 > 3000
  · rw [show decide ((elemsT D).1 > 3000) = true by simpa using h3]
    exact away _ 0 (.inl rfl)
  rw [show decide ((elemsT D).1 > 3000) = false by simpa using h3]
  have hpos : ∀ x ∈ D, 1 ≤ x := by
    intro x hx
    obtain ⟨i, hi, rfl⟩ := List.getElem_of_mem hx
    rw [← rd_nat D i hi]
    exact chunkL_dims D H hg D.length 0 1 (by omega) h1 i (by omega) hi
  have hf : Full D H := ⟨hg, hpos⟩
  have he2 : (elemsT D).2 = 0 := by
    unfold fitT at h0
    split at h0
    · assumption
    · contradiction
  have hel : elemsT D = (prodI D, 0) ∧ prodI D ≤ 1048576 := by
    have h5 : elemsT D = prodLoop D D.length 0 1 := by
      unfold elemsT at he2 ⊢
      split at he2
      · cases he2
      · rename_i hc
        rw [if_neg hc]
        split
        · rename_i hz
          have := hpos 0 (List.contains_iff_mem.1 hz)
          omega
        · rfl
    have h6 : prodLoop D D.length 0 1 = ((elemsT D).1, 0) := by rw [← h5, ← he2]
    have h7 := prodLoop_eq D D.length 0 1 _ (by omega) (by omega) (by omega) h6
    simp only [List.drop_zero, Int.one_mul] at h7
    refine ⟨?_, by omega⟩
    rw [h5, h6, h7.1]
  have hn := chunkL_eq D H hf D.length 0 1 (by omega) (by omega) (by omega) (by simpa using hel.2)
  simp only [List.drop_zero, Int.one_mul] at hn
  have hcl := cntL_pos D H hg.same hpos hf.shapes
  have ho := odo_lex (cntL D H) hcl.2
  have hrep : ints (List.replicate (cntL D H).length 0) = List.replicate D.length 0 := by simp [ints, hcl.1]
  refine Ev.step (f := fun k => slabvaultlaw13_GridCovers.l0 k D H A (chunkL D H D.length 0 1) ((0 : Nat) : Int)) (fun k => ?_) (good_loop D H A hf _ ?_ D.length 0 (by omega) (by omega))
  · simp only [slabvaultlaw13_GridCovers.j0]
    rw [if_neg (by simp), if_pos (by have := hg.same; omega)]
    rfl
  · have := all_loop D H A hf h0 hel.1 hel.2 (chunkL D H D.length 0 1) ho 0 0 (fun t ht => ht) (by omega) (by omega) (by rw [lex_length]; omega) (by rw [lex_sum D H hg.same hpos hf.shapes]; omega) (by rw [lex_length]; omega)
    rwa [hrep] at this
end Go.Proofs.Ytjbjofmcmjojlab.Pure
end
