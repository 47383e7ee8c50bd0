-- Texts that the row SpaceBeyond leans on, joined by wip/tools/mkclaim.py: Wk6, Wk20, Plain12, Plain12b, Plain12c, Plain12d, Plain12h, PureSpaceBeyond
import Derived.Test.YtjbjofmcmjojlaaCSpaceBeyond4
section
namespace Go.Proofs.Ytjbjofmcmjojlaa.Wk
open Go.RowKit Go.Proofs.YtjbjofmcmjojlaaW.PrintWords Go.Proofs.YtjbjofmcmjojlaaW.PrintLast Go.Proofs.YtjbjofmcmjojlaaW.PrintMore
attribute [local go_sem] max2_int min2_int max_two min_two max_three min_three max_four min_four
set_option linter.unusedVariables false
set_option linter.unusedSimpArgs false
mutual
def slabvaultref12_Elements.l0 : Nat → List Int → Int → Int → Option (Int × Int)
  | 0, _, _, _ => none
  | k + 1, x0, x4, x5 => if x5 < (x0.length : Int) then (if 0 ≤ x5 then (if (rd x0 x5) < 0 then (some (0, 2)) else (if (rd x0 x5) > 1048576 then (some (0, 2)) else (slabvaultref12_Elements.l0 k x0 x4 (wrap64 (x5 + 1))))) else (none)) else (slabvaultref12_Elements.l1 k x0 x4 0)
def slabvaultref12_Elements.l1 : Nat → List Int → Int → Int → Option (Int × Int)
  | 0, _, _, _ => none
  | k + 1, x0, x4, x6 => if x6 < (x0.length : Int) then (if 0 ≤ x6 then (if (rd x0 x6) = 0 then (some (0, 0)) else (slabvaultref12_Elements.l1 k x0 x4 (wrap64 (x6 + 1)))) else (none)) else (slabvaultref12_Elements.l2 k x0 x4 0)
def slabvaultref12_Elements.l2 : Nat → List Int → Int → Int → Option (Int × Int)
  | 0, _, _, _ => none
  | k + 1, x0, x4, x7 => if x7 < (x0.length : Int) then (if 0 ≤ x7 then (if (wrap64 (x4 * (rd x0 x7))) > 1048576 then (some (0, 3)) else (slabvaultref12_Elements.l2 k x0 (wrap64 (x4 * (rd x0 x7))) (wrap64 (x7 + 1)))) else (none)) else (some (x4, 0))
end
def slabvaultref12_Elements.f (k : Nat) (l0 : List Int) : Option (Int × Int) := if (l0.length : Int) > 4 then (some (0, 2)) else (slabvaultref12_Elements.l0 k l0 1 0)
end Go.Proofs.Ytjbjofmcmjojlaa.Wk
end
section
namespace Go.Proofs.Ytjbjofmcmjojlaa.Wk
open Go.RowKit Go.Proofs.YtjbjofmcmjojlaaW.PrintWords Go.Proofs.YtjbjofmcmjojlaaW.PrintLast Go.Proofs.YtjbjofmcmjojlaaW.PrintMore
attribute [local go_sem] max2_int min2_int max_two min_two max_three min_three max_four min_four
set_option linter.unusedVariables false
set_option linter.unusedSimpArgs false
def slabvaultlaw12_SpaceElements.f (k : Nat) (l0 : List Int) : Option (Bool) := (space_Elements.f l0).bind fun bt208 => ((slabvaultref12_Elements.f k l0).bind fun bt210 => (if bt208.1 = bt210.1 then (if bt208.2 = bt210.2 then ((slabvaultlaw12_lives.f k).bind fun t212 => (some t212)) else (some false)) else (some false)))
def slabvaultlaw12_SpaceElements.Pure : Prop := ∀ (l0 : List Int), l0.length ≤ maxLen → l0.length * 8 ≤ 140737488351232 → (∀ x ∈ l0, (Lit.int .i64 x).wf = true) → ∃ k, slabvaultlaw12_SpaceElements.f k l0 = some true
end Go.Proofs.Ytjbjofmcmjojlaa.Wk
end
section
namespace Go.Proofs.Ytjbjofmcmjojlaa.Pure
open Go.RowKit Go.Proofs.Ytjbjofmcmjojlaa.Wk Go.Proofs.YtjbjofmcmjojlaaW.PrintWords Go.Proofs.YtjbjofmcmjojlaaW.PrintLast
theorem wrap_up {i : Nat} {n : Nat} (h : i < n) (hn : n ≤ 9223372036854775807) : wrap64 ((i : Int) + 1) = ((i + 1 : Nat) : Int) := by unfold wrap64; omega
theorem rd_nat (l : List Int) (i : Nat) (h : i < l.length) : rd l (i : Int) = l[i] := by simp [rd, h]
theorem lives_ev : Ev (fun k => slabvaultlaw12_lives.f k) true := Ev.of (fun k => slabvaultlaw12_lives.mono k) (k := 60) (by decide +kernel)
def elemsT (l0 : List Int) : Int × Int := if 4 < l0.length ∨ l0.any badDim = true then (0, 2) else if l0.contains 0 = true then (0, 0) else prodLoop l0 l0.length 0 1
theorem elements_eq (l : List Int) : space_Elements.f l = some (elemsT l) := rfl
end Go.Proofs.Ytjbjofmcmjojlaa.Pure
end
section
namespace Go.Proofs.Ytjbjofmcmjojlaa.Pure
open Go.RowKit Go.Proofs.Ytjbjofmcmjojlaa.Wk Go.Proofs.YtjbjofmcmjojlaaW.PrintWords Go.Proofs.YtjbjofmcmjojlaaW.PrintLast Go.Proofs.YtjbjofmcmjojlaaQ
def Fit (l : List Int) : Prop := l.length ≤ 9223372036854775807 ∧ ∀ x ∈ l, -9223372036854775808 ≤ x ∧ x ≤ 9223372036854775807
theorem Fit.rd {l : List Int} (h : Fit l) (i : Nat) (hi : i < l.length) : -9223372036854775808 ≤ rd l i ∧ rd l i ≤ 9223372036854775807 := by
  rw [rd_nat l i hi]
  exact h.2 _ (List.getElem_mem hi)
def manyT (l : List Int) : Int := if l.contains 0 = true then 0 else manyLoop l l.length 0 1
def beyondT (dim start stride cnt blk : Int) : Bool := decide (dim - start < blk) || (decide (0 < stride) && decide (cnt - 1 > (dim - start - blk) / stride))
def outAt (l0 x : List Int) (i : Nat) : Bool := (List.range' i (x.length - i)).any fun d => decide (rd x d ≥ rd l0 d)
def outT (l0 : List Int) (pts : List (List Int)) : Bool := pts.any fun x => outAt l0 x 0
def beyondAt (l0 start stride cnt blk : List Int) (i : Nat) : Bool := (List.range' i (l0.length - i)).any fun d => beyondT (rd l0 d) (rd start d) (rd stride d) (rd cnt d) (rd blk d)
def capT (n : Int) : Int × Int := if n > 4096 then (0, 18) else (n, 0)
def slabR (r : Nat) (start stride cnt blk : List Int) : Bool := [start, stride, cnt, blk].all (rightOne r)
def measuredT (l0 : List Int) (kind : Int) (pts : List (List Int)) (start stride cnt blk : List Int) : Int × Int :=
  if (elemsT l0).2 = 0 then
    if kind = 1 then capT (elemsT l0).1
    else if kind = 2 ∧ pts.all (rightOne l0.length) = true then (if outT l0 pts = true then (0, 17) else capT pts.length)
    else if kind = 3 ∧ slabR l0.length start stride cnt blk = true then
      (if manyT (cnt ++ blk) > 0 ∧ beyondAt l0 start stride cnt blk 0 = true then (0, 17) else capT (manyT (cnt ++ blk)))
    else (0, 2)
  else (0, (elemsT l0).2)
theorem range'_any_succ (p : Nat → Bool) (i n : Nat) (h : i < n) : (List.range' i (n - i)).any p = (p i || (List.range' (i + 1) (n - (i + 1))).any p) := by
  rw [show n - i = (n - (i + 1)) + 1 by omega, List.range'_succ, List.any_cons]
theorem beyond_eq {dim start stride cnt blk : Int} (h1 : 0 ≤ dim ∧ dim ≤ 1048576) (h2 : 0 ≤ start ∧ start ≤ 9223372036854775807) (h3 : 0 ≤ stride) (h4 : 0 ≤ cnt ∧ cnt ≤ 9223372036854775807) (h5 : 0 ≤ blk ∧ blk ≤ 9223372036854775807) :
    space_beyond.f dim start stride cnt blk = some (beyondT dim start stride cnt blk) := by
  unfold space_beyond.f beyondT
  have w1 : wrap64 (dim - start) = dim - start := by unfold wrap64; omega
  rw [w1]
  by_cases c : dim - start < blk
  · rw [if_pos c]
    simp [c]
  · rw [if_neg c]
    have w2 : wrap64 (dim - start - blk) = dim - start - blk := by unfold wrap64; omega
    have w3 : wrap64 (cnt - 1) = cnt - 1 := by unfold wrap64; omega
    rw [w2, w3]
    by_cases d : stride > 0
    · rw [if_pos d, if_neg (by omega), Int.tdiv_eq_ediv_of_nonneg (by omega)]
      have q0 : 0 ≤ (dim - start - blk) / stride := Int.ediv_nonneg (by omega) (by omega)
      have q1 : (dim - start - blk) / stride ≤ dim - start - blk := Int.ediv_le_self _ (by omega)
      have w4 : wrap64 ((dim - start - blk) / stride) = (dim - start - blk) / stride := by unfold wrap64; omega
      rw [w4]
      simp [c, d]
    · rw [if_neg d]
      simp [c, d]
theorem meas_l1 (l0 : List Int) (n : Int) (pts : List (List Int)) (hp : pts.length ≤ 9223372036854775807) (x : List Int) (hx : x.length = l0.length) (hm : l0.length ≤ 9223372036854775807) (m : Nat)
    (r : Int × Int) (hr : Ev (fun k => space_measured.l0 k l0 n pts pts.length ((m + 1 : Nat) : Int)) r) (hmp : m < pts.length) : ∀ (d i : Nat), x.length - i = d → i ≤ x.length →
    Ev (fun k => space_measured.l1 k l0 n pts pts.length m x x.length i) (if outAt l0 x i = true then (0, 17) else r) := by
  intro d
  induction d with
  | zero =>
    intro i h hi
    have e : outAt l0 x i = false := by unfold outAt; rw [show x.length - i = 0 by omega]; rfl
    rw [e]
    refine Ev.step (f := fun k => space_measured.l0 k l0 n pts pts.length ((m + 1 : Nat) : Int)) (fun k => ?_) hr
    simp only [space_measured.l1]
    rw [if_neg (by omega), wrap_up hmp hp]
  | succ d ih =>
    intro i h hi
    have hlt : i < x.length := by omega
    have e : outAt l0 x i = (decide (rd x i ≥ rd l0 i) || outAt l0 x (i + 1)) := range'_any_succ _ _ _ hlt
    rw [e]
    by_cases c : rd x i ≥ rd l0 i
    · refine Ev.step (f := fun _ => some (0, 17)) (fun k => ?_) (by rw [decide_eq_true c]; exact Ev.now _)
      simp only [space_measured.l1]
      rw [if_pos (by omega), if_pos (by omega), if_pos (by omega), if_pos (by omega), if_pos c]
    · refine Ev.step (f := fun k => space_measured.l1 k l0 n pts pts.length m x x.length ((i + 1 : Nat) : Int)) (fun k => ?_) (by rw [decide_eq_false c, Bool.false_or]; exact ih (i + 1) (by omega) (by omega))
      simp only [space_measured.l1]
      rw [if_pos (by omega), if_pos (by omega), if_pos (by omega), if_pos (by omega), if_neg c, wrap_up hlt (by omega)]
theorem meas_l0 (l0 : List Int) (n : Int) (pts : List (List Int)) (hp : pts.length ≤ 9223372036854775807) (hm : l0.length ≤ 9223372036854775807) (hr : ∀ x ∈ pts, x.length = l0.length) : ∀ (d i : Nat), pts.length - i = d → i ≤ pts.length →
    Ev (fun k => space_measured.l0 k l0 n pts pts.length i) (if (pts.drop i).any (fun x => outAt l0 x 0) = true then (0, 17) else capT n) := by
  intro d
  induction d with
  | zero =>
    intro i h hi
    rw [List.drop_eq_nil_of_le (by omega)]
    refine Ev.step (f := fun _ => some (capT n)) (fun k => ?_) (by rw [if_neg (by simp)]; exact Ev.now _)
    simp only [space_measured.l0]
    rw [if_neg (by omega)]
    unfold capT
    split <;> rfl
  | succ d ih =>
    intro i h hi
    have hlt : i < pts.length := by omega
    have hx : rd_L1 pts i = pts[i] := by simp [rd_L1, List.getD_eq_getElem?_getD, hlt]
    have hl := hr _ (List.getElem_mem hlt)
    rw [List.drop_eq_getElem_cons hlt, List.any_cons]
    refine Ev.step (f := fun k => space_measured.l1 k l0 n pts pts.length i pts[i] (pts[i].length : Int) ((0 : Nat) : Int)) (fun k => ?_) ?_
    · simp only [space_measured.l0]
      rw [if_pos (by omega), if_pos (by omega), if_pos (by omega), hx]
      rfl
    · have := meas_l1 l0 n pts hp pts[i] hl hm i _ (ih (i + 1) (by omega) (by omega)) hlt pts[i].length 0 (by omega) (by omega)
      cases c : outAt l0 pts[i] 0 with
      | true => rw [c] at this; simpa using this
      | false => rw [c] at this; simpa using this
theorem meas_l2 (l0 : List Int) (n kind : Int) (pts : List (List Int)) (start stride cnt blk : List Int) (hm : l0.length ≤ 9223372036854775807) (h0 : l0.any badDim = false)
    (e1 : start.length = l0.length) (e2 : stride.length = l0.length) (e3 : cnt.length = l0.length) (e4 : blk.length = l0.length)
    (f1 : ∀ d : Nat, d < l0.length → 0 ≤ rd start d ∧ rd start d ≤ 9223372036854775807) (f2 : ∀ d : Nat, d < l0.length → 0 ≤ rd stride d) (f3 : ∀ d : Nat, d < l0.length → 0 ≤ rd cnt d ∧ rd cnt d ≤ 9223372036854775807) (f4 : ∀ d : Nat, d < l0.length → 0 ≤ rd blk d ∧ rd blk d ≤ 9223372036854775807) :
    ∀ (d i : Nat), l0.length - i = d → i ≤ l0.length →
    Ev (fun k => space_measured.l2 k l0 n l0.length i kind pts start stride cnt blk) (if n > 0 ∧ beyondAt l0 start stride cnt blk i = true then (0, 17) else capT n) := by
  intro d
  induction d with
  | zero =>
    intro i h hi
    have e : beyondAt l0 start stride cnt blk i = false := by unfold beyondAt; rw [show l0.length - i = 0 by omega]; rfl
    rw [e, if_neg (by simp)]
    refine Ev.step (f := fun _ => some (capT n)) (fun k => ?_) (Ev.now _)
    simp only [space_measured.l2]
    rw [if_neg (by omega)]
    unfold capT
    split <;> rfl
  | succ d ih =>
    intro i h hi
    have hlt : i < l0.length := by omega
    have e : beyondAt l0 start stride cnt blk i = (beyondT (rd l0 i) (rd start i) (rd stride i) (rd cnt i) (rd blk i) || beyondAt l0 start stride cnt blk (i + 1)) := range'_any_succ _ _ _ hlt
    have hb := beyond_eq (good_rd h0 i hlt) (f1 i hlt) (f2 i hlt) (f3 i hlt) (f4 i hlt)
    rw [e]
    by_cases c : n > 0
    · refine Ev.step (f := fun k => if beyondT (rd l0 i) (rd start i) (rd stride i) (rd cnt i) (rd blk i) = true then some (0, 17) else space_measured.l2 k l0 n l0.length ((i + 1 : Nat) : Int) kind pts start stride cnt blk) (fun k => ?_) ?_
      · simp only [space_measured.l2]
        rw [if_pos (by omega), if_pos c, if_pos (by omega), if_pos (by omega), if_pos (by omega), if_pos (by omega), if_pos (by omega), if_pos (by omega), hb, Option.bind_some, wrap_up hlt hm]
      · cases b : beyondT (rd l0 i) (rd start i) (rd stride i) (rd cnt i) (rd blk i) with
        | true => simp only [if_true, Bool.true_or, and_true]; rw [if_pos c]; exact Ev.now _
        | false => simp only [Bool.false_eq_true, if_false, Bool.false_or]; exact ih (i + 1) (by omega) (by omega)
    · refine Ev.step (f := fun k => space_measured.l2 k l0 n l0.length ((i + 1 : Nat) : Int) kind pts start stride cnt blk) (fun k => ?_) ?_
      · simp only [space_measured.l2]
        rw [if_pos (by omega), if_neg c, wrap_up hlt hm]
      · have := ih (i + 1) (by omega) (by omega)
        rw [if_neg (fun h => c h.1)] at this ⊢
        exact this
theorem right_nonneg {l : List Int} {r : Nat} (h : rightOne r l = true) : l.length = r ∧ l.any negDim = false := by
  unfold rightOne at h
  rw [Bool.and_eq_true, decide_eq_true_eq, Bool.not_eq_true'] at h
  exact ⟨by omega, h.2⟩
theorem neg_rd {l : List Int} (h : l.any negDim = false) (i : Nat) (hi : i < l.length) : 0 ≤ rd l i := by
  rw [rd_nat l i hi]
  have := List.any_eq_false.1 h l[i] (List.getElem_mem hi)
  simp [negDim] at this
  omega
theorem many_eq {l : List Int} (h : l.length ≤ 9223372036854775807) (hn : l.any negDim = false) : space_many.f 1 l = some (manyT l) := by
  unfold space_many.f manyT
  rw [if_pos ⟨rfl, by unfold maxLen; omega, hn⟩]
theorem right_eq {a : Int} {l : List (List Int)} (h : l.length ≤ 9223372036854775807) (hl : ∀ x ∈ l, x.length ≤ 9223372036854775807) : space_right.f a l = some (l.all (rightOne a)) := by
  unfold space_right.f
  rw [if_pos ⟨by unfold maxLen; omega, fun x hx => by have := hl x hx; unfold maxLen; omega⟩]
theorem measured_ev (l0 : List Int) (kind : Int) (pts : List (List Int)) (start stride cnt blk : List Int) (h0 : Fit l0) (h1 : pts.length ≤ 9223372036854775807) (h1' : ∀ x ∈ pts, x.length ≤ 9223372036854775807)
    (h2 : Fit start) (h3 : Fit stride) (h4 : Fit cnt) (h5 : Fit blk) : Ev (fun k => space_measured.f k l0 kind pts start stride cnt blk) (measuredT l0 kind pts start stride cnt blk) := by
  unfold space_measured.f measuredT
  rw [elements_eq]
  simp only [Option.bind_some]
  by_cases he : (elemsT l0).2 = 0
  · rw [if_pos he]
    simp only [if_pos he]
    have hgood : l0.length ≤ 4 ∧ l0.any badDim = false := by
      unfold elemsT at he
      by_cases c : 4 < l0.length ∨ l0.any badDim = true
      · rw [if_pos c] at he; simp at he
      · rw [not_or] at c
        exact ⟨by omega, by simpa using c.2⟩
    by_cases k1 : kind = 1
    · rw [if_pos k1]
      simp only [if_pos k1]
      unfold capT
      split <;> exact Ev.now _
    · rw [if_neg k1]
      simp only [if_neg k1]
      by_cases k2 : kind = 2
      · subst k2
        rw [right_eq h1 h1']
        simp only [if_true, Option.bind_some]
        cases hr : pts.all (rightOne (l0.length : Int)) with
        | true =>
          rw [if_pos ⟨trivial, rfl⟩]
          refine Ev.step (f := fun k => space_measured.l0 k l0 pts.length pts pts.length ((0 : Nat) : Int)) (fun k => ?_) ?_
          · simp only [space_measured.j0, if_true]
            rfl
          · have hlen : ∀ x ∈ pts, x.length = l0.length := fun x hx => (right_nonneg (List.all_eq_true.1 hr x hx)).1
            have := meas_l0 l0 pts.length pts h1 h0.1 hlen pts.length 0 (by omega) (by omega)
            rw [List.drop_zero] at this
            exact this
        | false =>
          rw [if_neg (by simp), if_neg (by simp)]
          refine Ev.step (f := fun k => space_measured.j3 k l0 false 2 pts start stride cnt blk) (fun k => ?_) ?_
          · simp only [space_measured.j0]
            rw [if_neg (by simp), if_neg (by omega)]
          · refine Ev.step (f := fun _ => some (0, 2)) (fun k => ?_) (Ev.now _)
            simp only [space_measured.j3]
            rw [if_neg (by simp)]
      · rw [if_neg (fun h => k2 h.1)]
        simp only [if_neg k2]
        by_cases k3 : kind = 3
        · subst k3
          have hr4 : space_right.f (l0.length : Int) [start, stride, cnt, blk] = some (slabR l0.length start stride cnt blk) := right_eq (by simp) (by
            intro x hx
            simp only [List.mem_cons, List.not_mem_nil, or_false] at hx
            rcases hx with rfl | rfl | rfl | rfl
            · exact h2.1
            · exact h3.1
            · exact h4.1
            · exact h5.1)
          refine Ev.step (f := fun k => space_measured.j3 k l0 (slabR l0.length start stride cnt blk) 3 pts start stride cnt blk) (fun k => ?_) ?_
          · simp only [space_measured.j0]
            rw [if_neg (by simp), if_pos trivial, hr4, Option.bind_some]
          · cases hs : slabR l0.length start stride cnt blk with
            | false =>
              rw [if_neg (by simp)]
              refine Ev.step (f := fun _ => some (0, 2)) (fun k => ?_) (Ev.now _)
              simp only [space_measured.j3]
              rw [if_neg (by simp)]
            | true =>
              rw [if_pos ⟨rfl, rfl⟩]
              unfold slabR at hs
              simp only [List.all_cons, List.all_nil, Bool.and_true, Bool.and_eq_true] at hs
              obtain ⟨r1, r2, r3, r4⟩ := hs
              obtain ⟨e1, n1⟩ := right_nonneg r1
              obtain ⟨e2, n2⟩ := right_nonneg r2
              obtain ⟨e3, n3⟩ := right_nonneg r3
              obtain ⟨e4, n4⟩ := right_nonneg r4
              have hcl : slices_Clone_int_int.f cnt = some cnt := by unfold slices_Clone_int_int.f; rw [if_pos (by omega)]
              have hmy := many_eq (l := cnt ++ blk) (by rw [List.length_append]; omega) (by rw [List.any_append, n3, n4]; rfl)
              refine Ev.step (f := fun k => space_measured.l2 k l0 (manyT (cnt ++ blk)) l0.length ((0 : Nat) : Int) 3 pts start stride cnt blk) (fun k => ?_) ?_
              · simp only [space_measured.j3, if_true]
                rw [hcl, Option.bind_some, if_pos (by omega), hmy, Option.bind_some]
                rfl
              · exact meas_l2 l0 _ 3 pts start stride cnt blk h0.1 hgood.2 e1 e2 e3 e4 (fun d hd => ⟨neg_rd n1 d (by omega), (h2.rd d (by omega)).2⟩) (fun d hd => neg_rd n2 d (by omega))
                  (fun d hd => ⟨neg_rd n3 d (by omega), (h4.rd d (by omega)).2⟩) (fun d hd => ⟨neg_rd n4 d (by omega), (h5.rd d (by omega)).2⟩) l0.length 0 (by omega) (by omega)
        · rw [if_neg (fun h => k3 h.1)]
          refine Ev.step (f := fun k => space_measured.j3 k l0 false kind pts start stride cnt blk) (fun k => ?_) ?_
          · simp only [space_measured.j0]
            rw [if_neg (by simp), if_neg k3]
          · refine Ev.step (f := fun _ => some (0, 2)) (fun k => ?_) (Ev.now _)
            simp only [space_measured.j3]
            rw [if_neg (by simp)]
  · rw [if_neg he]
    simp only [if_neg he]
    exact Ev.now _
end Go.Proofs.Ytjbjofmcmjojlaa.Pure
end
section
namespace Go.Proofs.Ytjbjofmcmjojlaa.Pure
open Go.RowKit Go.Proofs.Ytjbjofmcmjojlaa.Wk Go.Proofs.YtjbjofmcmjojlaaW.PrintWords Go.Proofs.YtjbjofmcmjojlaaW.PrintLast Go.Proofs.YtjbjofmcmjojlaaQ
def lprod (l : List Int) : Int := l.foldr (· * ·) 1
def nprod (l : List Nat) : Nat := l.foldr (· * ·) 1
theorem lprod_cons (a : Int) (l : List Int) : lprod (a :: l) = a * lprod l := rfl
theorem drop_rd (l : List Int) (i : Nat) (h : i < l.length) : l.drop i = rd l i :: l.drop (i + 1) := by rw [List.drop_eq_getElem_cons h, rd_nat l i h]
theorem prodLoop_ok (l : List Int) : ∀ (d i : Nat) (n p : Int), l.length - i = d → i ≤ l.length → prodLoop l d i n = (p, 0) → p = n * lprod (l.drop i)
  | 0, i, n, p, h, hi, e => by
    rw [List.drop_eq_nil_of_le (by omega)]
    simp only [prodLoop, Prod.mk.injEq] at e
    simp [lprod, e.1]
  | d + 1, i, n, p, h, hi, e => by
    simp only [prodLoop] at e
    split at e
    · simp at e
    · rw [drop_rd l i (by omega), lprod_cons, ← Int.mul_assoc]
      exact prodLoop_ok l d (i + 1) _ p (by omega) (by omega) e
theorem prodLoop_le (l : List Int) : ∀ (d i : Nat) (n p : Int) (e : Int), n ≤ 1048576 → prodLoop l d i n = (p, e) → p ≤ 1048576 ∧ (e = 0 ∨ e = 3)
  | 0, i, n, p, e, hn, h => by
    simp only [prodLoop, Prod.mk.injEq] at h
    omega
  | d + 1, i, n, p, e, hn, h => by
    simp only [prodLoop] at h
    split at h
    · simp only [Prod.mk.injEq] at h
      omega
    · exact prodLoop_le l d (i + 1) _ p e (by omega) h
theorem manyLoop_pos (l : List Int) (hp : ∀ i : Nat, i < l.length → 1 ≤ rd l i) : ∀ (d i : Nat) (n : Int), l.length - i = d → i ≤ l.length → 1 ≤ n → 1 ≤ manyLoop l d i n
  | 0, i, n, h, hi, hn => by simpa [manyLoop] using hn
  | d + 1, i, n, h, hi, hn => by
    simp only [manyLoop]
    split
    · omega
    · have h1 := hp i (by omega)
      have h2 : 1 * 1 ≤ n * rd l i := Int.mul_le_mul hn h1 (by omega) (by omega)
      exact manyLoop_pos l hp d (i + 1) _ (by omega) (by omega) (by omega)
def Within (l0 x : List Int) : Prop := x.length = l0.length ∧ ∀ d : Nat, d < l0.length → 0 ≤ rd x d ∧ rd x d < rd l0 d
def horn : List Int → List Int → Int
  | _ :: l, b :: x => b * lprod l + horn l x
  | _, _ => 0
def hornN : List Nat → List Nat → Nat
  | _ :: N, i :: s => i * nprod N + hornN N s
  | _, _ => 0
end Go.Proofs.Ytjbjofmcmjojlaa.Pure
end
section
namespace Go.Proofs.Ytjbjofmcmjojlaa.Pure
open Go.RowKit Go.Proofs.Ytjbjofmcmjojlaa.Wk Go.Proofs.YtjbjofmcmjojlaaW.PrintWords Go.Proofs.YtjbjofmcmjojlaaW.PrintLast Go.Proofs.YtjbjofmcmjojlaaQ
theorem elems_good {l : List Int} (h : (elemsT l).2 = 0) : l.length ≤ 4 ∧ l.any badDim = false ∧ (elemsT l).1 ≤ 1048576 ∧ (((elemsT l).1 = 0 ∧ l.contains 0 = true) ∨ (l.contains 0 = false ∧ (elemsT l).1 = lprod l)) := by
  have hE : elemsT l = if 4 < l.length ∨ l.any badDim = true then (0, 2) else if l.contains 0 = true then (0, 0) else prodLoop l l.length 0 1 := rfl
  by_cases c : 4 < l.length ∨ l.any badDim = true
  · rw [hE, if_pos c] at h
    simp at h
  · rw [if_neg c] at hE
    rw [not_or] at c
    by_cases z : l.contains 0 = true
    · rw [if_pos z] at hE
      rw [hE]
      exact ⟨by omega, by simpa using c.2, by simp, .inl ⟨rfl, z⟩⟩
    · rw [if_neg z] at hE
      rw [hE] at h ⊢
      have h1 := prodLoop_le l l.length 0 1 _ _ (by omega) (Prod.eta (prodLoop l l.length 0 1)).symm
      have h2 := prodLoop_ok l l.length 0 1 (prodLoop l l.length 0 1).1 (by omega) (by omega) (by rw [← h])
      rw [List.drop_zero, Int.one_mul] at h2
      exact ⟨by omega, by simpa using c.2, h1.1, .inr ⟨by simpa using z, h2⟩⟩
theorem pos_mem {l : List Int} (h : ∀ i : Nat, i < l.length → 1 ≤ rd l i) : ∀ x ∈ l, 1 ≤ x := by
  intro x hx
  obtain ⟨i, hi, rfl⟩ := List.getElem_of_mem hx
  rw [← rd_nat l i hi]
  exact h i hi
theorem any_range' {p : Nat → Bool} {n : Nat} (h : (List.range' 0 n).any p = false) (d : Nat) (hd : d < n) : p d = false := by
  have := List.any_eq_false.1 h d (by simp [List.mem_range']; omega)
  simpa using this
structure Good (l0 : List Int) (kind : Int) (pts : List (List Int)) (start stride cnt blk : List Int) (n : Int) : Prop where
  ok : SelOk l0 kind start stride cnt blk
  len : ((selTuples l0 kind pts start stride cnt blk).length : Int) = n
  pos : 0 < n
  cap : n ≤ 4096
  within : ∀ x ∈ selTuples l0 kind pts start stride cnt blk, Within l0 x
def placesT (l0 : List Int) (kind : Int) (pts : List (List Int)) (start stride cnt blk : List Int) : List Int × Int :=
  if (measuredT l0 kind pts start stride cnt blk).2 = 0 then (if (measuredT l0 kind pts start stride cnt blk).1 = 0 then ([], 0) else ((selTuples l0 kind pts start stride cnt blk).map (placeOf l0), 0))
  else ([], (measuredT l0 kind pts start stride cnt blk).2)
end Go.Proofs.Ytjbjofmcmjojlaa.Pure
end
section
namespace Go.Proofs.Ytjbjofmcmjojlaa.Pure
open Go.RowKit Go.Proofs.Ytjbjofmcmjojlaa.Wk Go.Proofs.YtjbjofmcmjojlaaW.PrintWords Go.Proofs.YtjbjofmcmjojlaaW.PrintLast Go.Proofs.YtjbjofmcmjojlaaQ
theorem rdL1n (l : List (List Int)) (i : Nat) (h : i < l.length) : rd_L1 l (i : Int) = l[i] := by simp [rd_L1, h]
def Short (pts : List (List Int)) (start stride cnt blk : List Int) : Prop :=
  pts.length ≤ 5864062014634 ∧ (∀ x ∈ pts, x.length ≤ 17592186043904) ∧ start.length ≤ 17592186043904 ∧ stride.length ≤ 17592186043904 ∧ cnt.length ≤ 17592186043904 ∧ blk.length ≤ 17592186043904
theorem great_l0b (kind : Int) (pts : List (List Int)) (start stride cnt blk : List Int) (hm : pts.length ≤ 5864062014634) (hx : ∀ x ∈ pts, x.length ≤ 17592186043904) : ∀ (d i : Nat) (x : Int), pts.length - i = d → i ≤ pts.length → 0 ≤ x → x ≤ 5864062014634 →
    ∃ b, Ev (fun k => slabvaultlaw12_great.l0 k x i kind pts start stride cnt blk) b ∧ (b = false → x ≤ 30000 ∧ ∀ y ∈ pts.drop i, y.length ≤ 30000) := by
  intro d
  induction d with
  | zero =>
    intro i x h hi h0 h1
    refine ⟨_, Ev.step (f := fun _ => some (decide (x > 30000))) (fun k => ?_) (Ev.now _), fun hb => ?_⟩
    · simp only [slabvaultlaw12_great.l0]
      rw [if_neg (by omega)]
    · have := of_decide_eq_false hb
      refine ⟨by omega, fun y hy => ?_⟩
      rw [List.drop_eq_nil_of_le (by omega)] at hy
      simp at hy
  | succ d ih =>
    intro i x h hi h0 h1
    have hlt : i < pts.length := by omega
    have hl := hx _ (List.getElem_mem hlt)
    have hw : wrap64 (x + ((rd_L1 pts i).length : Int)) = x + (pts[i].length : Int) := by
      rw [rdL1n pts i hlt]
      unfold wrap64
      omega
    by_cases c : wrap64 (x + ((rd_L1 pts i).length : Int)) > 30000
    · refine ⟨_, Ev.step (f := fun _ => some true) (fun k => ?_) (Ev.now _), fun hb => by cases hb⟩
      simp only [slabvaultlaw12_great.l0]
      rw [if_pos (by omega), if_pos (by omega), if_pos c]
    · obtain ⟨b, hb, hf⟩ := ih (i + 1) (wrap64 (x + ((rd_L1 pts i).length : Int))) (by omega) (by omega) (by rw [hw]; omega) (by omega)
      refine ⟨b, Ev.step (f := fun k => slabvaultlaw12_great.l0 k (wrap64 (x + ((rd_L1 pts i).length : Int))) ((i + 1 : Nat) : Int) kind pts start stride cnt blk) (fun k => ?_) hb, fun e => ?_⟩
      · simp only [slabvaultlaw12_great.l0]
        rw [if_pos (by omega), if_pos (by omega), if_neg c, wrap_up hlt (by omega)]
      · obtain ⟨f1, f2⟩ := hf e
        rw [hw] at f1
        refine ⟨by omega, fun y hy => ?_⟩
        rw [List.drop_eq_getElem_cons hlt] at hy
        rcases List.mem_cons.1 hy with rfl | hy
        · omega
        · exact f2 y hy
theorem great_evb (kind : Int) (pts : List (List Int)) (start stride cnt blk : List Int) (h : Short pts start stride cnt blk) :
    ∃ b, Ev (fun k => slabvaultlaw12_great.f k kind pts start stride cnt blk) b ∧ (b = false → pts.length ≤ 30000 ∧ ∀ y ∈ pts, y.length ≤ 30000) := by
  obtain ⟨b, hb, hf⟩ := great_l0b kind pts start stride cnt blk h.1 h.2.1 pts.length 0 pts.length (by omega) (by omega) (by omega) (by have := h.1; omega)
  refine ⟨b, hb, fun e => ?_⟩
  have := hf e
  rw [List.drop_zero] at this
  exact ⟨by omega, this.2⟩
theorem own_l0 (k1 : Int) (pts : List (List Int)) (a b c d s t u v : List Int) (hm : pts.length ≤ 5864062014634) (hx : ∀ x ∈ pts, x.length ≤ 17592186043904) : ∀ (n i : Nat), pts.length - i = n → i ≤ pts.length →
    Ev (fun k => slabvaultlaw12_own.l0 k i k1 pts a b c d k1 (pts.take i) s t u v) (k1, pts, s, t, u, v) := by
  intro n
  induction n with
  | zero =>
    intro i h hi
    refine Ev.step (f := fun _ => some (k1, pts.take i, s, t, u, v)) (fun k => ?_) ?_
    · simp only [slabvaultlaw12_own.l0]
      rw [if_neg (by omega)]
    · rw [List.take_of_length_le (by omega)]
      exact Ev.now _
  | succ n ih =>
    intro i h hi
    have hlt : i < pts.length := by omega
    have hl := hx _ (List.getElem_mem hlt)
    refine Ev.step (f := fun k => slabvaultlaw12_own.l0 k ((i + 1 : Nat) : Int) k1 pts a b c d k1 (pts.take (i + 1)) s t u v) (fun k => ?_) (ih (i + 1) (by omega) (by omega))
    simp only [slabvaultlaw12_own.l0, Option.bind_some, rdL1n pts i hlt, List.length_nil, Nat.zero_add, List.nil_append, List.length_take]
    rw [if_pos (by omega), if_pos (by omega), if_pos (by omega), if_pos (by omega), wrap_up hlt (by omega), List.take_succ_eq_append_getElem hlt]
theorem own_ev (kind : Int) (pts : List (List Int)) (start stride cnt blk : List Int) (h : Short pts start stride cnt blk) :
    Ev (fun k => slabvaultlaw12_own.f k kind pts start stride cnt blk) (kind, pts, start, stride, cnt, blk) := by
  obtain ⟨h1, h2, h3, h4, h5, h6⟩ := h
  refine Ev.congr (f := fun k => slabvaultlaw12_own.l0 k ((0 : Nat) : Int) kind pts start stride cnt blk kind (pts.take 0) start stride cnt blk) (fun k => ?_) (own_l0 kind pts start stride cnt blk start stride cnt blk h1 h2 pts.length 0 (by omega) (by omega))
  simp only [slabvaultlaw12_own.f, Option.bind_some, List.length_nil, Nat.zero_add, List.nil_append, List.take_zero]
  rw [if_pos (by omega), if_pos (by omega), if_pos (by omega), if_pos (by omega)]
  rfl
end Go.Proofs.Ytjbjofmcmjojlaa.Pure
end
section
namespace Go.Proofs.Ytjbjofmcmjojlaa.Pure
open Go.RowKit Go.Proofs.Ytjbjofmcmjojlaa.Wk Go.Proofs.YtjbjofmcmjojlaaW.PrintWords Go.Proofs.YtjbjofmcmjojlaaW.PrintLast Go.Proofs.YtjbjofmcmjojlaaQ
theorem fit_wf {l : List Int} (hm : l.length ≤ maxLen) (h : ∀ x ∈ l, (Lit.int .i64 x).wf = true) : Fit l := by
  refine ⟨hm, fun x hx => ?_⟩
  have := h x hx
  simpa [Lit.wf, IntKind.min, IntKind.max, IntKind.signed, IntKind.bits] using this
theorem rd_set (l : List Int) (d i : Nat) (x : Int) (_ : d < l.length) (hi : i < l.length) : rd (l.set d x) i = if i = d then x else rd l i := by
  rw [rd_nat _ _ (by rw [List.length_set]; exact hi), rd_nat l i hi, List.getElem_set]
  by_cases c : i = d
  · rw [if_pos c, if_pos c.symm]
  · rw [if_neg c, if_neg (fun e => c e.symm)]
structure Slab (r : Nat) (start stride cnt blk : List Int) : Prop where
  l1 : start.length = r
  l2 : stride.length = r
  l3 : cnt.length = r
  l4 : blk.length = r
  n1 : ∀ i : Nat, i < r → 0 ≤ rd start i ∧ rd start i ≤ 9223372036854775807
  n2 : ∀ i : Nat, i < r → 0 ≤ rd stride i ∧ rd stride i ≤ 9223372036854775807
  n3 : ∀ i : Nat, i < r → 1 ≤ rd cnt i ∧ rd cnt i ≤ 9223372036854775807
  n4 : ∀ i : Nat, i < r → 1 ≤ rd blk i ∧ rd blk i ≤ 9223372036854775807
theorem neg_of_rd {l : List Int} (h : ∀ i : Nat, i < l.length → 0 ≤ rd l i) : l.any negDim = false := by
  rw [List.any_eq_false]
  intro x hx
  obtain ⟨i, hi, rfl⟩ := List.getElem_of_mem hx
  have := h i hi
  rw [rd_nat l i hi] at this
  simp [negDim]
  omega
theorem rightOne_rd {r : Nat} {l : List Int} (hl : l.length = r) (h : ∀ i : Nat, i < r → 0 ≤ rd l i) : rightOne r l = true := by
  have := neg_of_rd (l := l) (fun i hi => h i (by omega))
  simp [rightOne, hl, this]
theorem many_pos {cnt blk : List Int} (h3 : ∀ i : Nat, i < cnt.length → 1 ≤ rd cnt i) (h4 : ∀ i : Nat, i < blk.length → 1 ≤ rd blk i) : 1 ≤ manyT (cnt ++ blk) := by
  have hp : ∀ x ∈ cnt ++ blk, 1 ≤ x := fun x hx => by
    rcases List.mem_append.1 hx with h | h
    · exact pos_mem h3 x h
    · exact pos_mem h4 x h
  unfold manyT
  rw [if_neg (by
    rw [List.contains_iff_mem]
    intro h
    have := hp 0 h
    omega)]
  refine manyLoop_pos _ (fun i hi => ?_) _ 0 1 (by omega) (by omega) (by omega)
  rw [rd_nat _ i hi]
  exact hp _ (List.getElem_mem hi)
theorem refused {l0 : List Int} {pts : List (List Int)} {start stride cnt blk : List Int} (he : (elemsT l0).2 = 0) (g : Slab l0.length start stride cnt blk) (d : Nat) (hd : d < l0.length)
    (hb : beyondT (rd l0 d) (rd start d) (rd stride d) (rd cnt d) (rd blk d) = true) : (measuredT l0 3 pts start stride cnt blk).2 = 17 := by
  unfold measuredT
  rw [if_pos he, if_neg (by omega), if_neg (by omega)]
  have hs : slabR l0.length start stride cnt blk = true := by
    simp only [slabR, List.all_cons, List.all_nil, Bool.and_true, Bool.and_eq_true]
    exact ⟨rightOne_rd g.l1 (fun i hi => (g.n1 i hi).1), rightOne_rd g.l2 (fun i hi => (g.n2 i hi).1), rightOne_rd g.l3 (fun i hi => by have := (g.n3 i hi).1; omega), rightOne_rd g.l4 (fun i hi => by have := (g.n4 i hi).1; omega)⟩
  have hm : manyT (cnt ++ blk) > 0 := many_pos (fun i hi => (g.n3 i (by rw [← g.l3]; exact hi)).1) (fun i hi => (g.n4 i (by rw [← g.l4]; exact hi)).1)
  have ha : beyondAt l0 start stride cnt blk 0 = true := by
    unfold beyondAt
    rw [List.any_eq_true]
    exact ⟨d, by rw [List.mem_range']; exact ⟨d, by omega, by omega⟩, hb⟩
  rw [if_pos ⟨rfl, hs⟩, if_pos ⟨hm, ha⟩]
theorem check_ev (l0 : List Int) (kind : Int) (pts : List (List Int)) (start stride cnt blk : List Int) (h0 : Fit l0) (h1 : pts.length ≤ 9223372036854775807) (h1' : ∀ x ∈ pts, x.length ≤ 9223372036854775807)
    (h2 : Fit start) (h3 : Fit stride) (h4 : Fit cnt) (h5 : Fit blk) : Ev (fun k => space_Check.f k l0 kind pts start stride cnt blk) (measuredT l0 kind pts start stride cnt blk).2 :=
  Ev.bind (measured_ev l0 kind pts start stride cnt blk h0 h1 h1' h2 h3 h4 h5) (Ev.now _)
theorem count_ev (l0 : List Int) (kind : Int) (pts : List (List Int)) (start stride cnt blk : List Int) (h0 : Fit l0) (h1 : pts.length ≤ 9223372036854775807) (h1' : ∀ x ∈ pts, x.length ≤ 9223372036854775807)
    (h2 : Fit start) (h3 : Fit stride) (h4 : Fit cnt) (h5 : Fit blk) : Ev (fun k => space_Count.f k l0 kind pts start stride cnt blk) ((measuredT l0 kind pts start stride cnt blk).1, (measuredT l0 kind pts start stride cnt blk).2) :=
  Ev.bind (measured_ev l0 kind pts start stride cnt blk h0 h1 h1' h2 h3 h4 h5) (Ev.now _)
theorem fit_rd {l : List Int} {r : Nat} (hl : l.length = r) (hr : r ≤ 4) (h : ∀ i : Nat, i < r → 0 ≤ rd l i ∧ rd l i ≤ 9223372036854775807) : Fit l := by
  refine ⟨by omega, fun x hx => ?_⟩
  obtain ⟨i, hi, rfl⟩ := List.getElem_of_mem hx
  have := h i (by omega)
  rw [rd_nat l i hi] at this
  omega
theorem Slab.check {l0 : List Int} {pts : List (List Int)} {start stride cnt blk : List Int} (he : (elemsT l0).2 = 0) (h0 : Fit l0) (h1 : pts.length ≤ 9223372036854775807) (h1' : ∀ x ∈ pts, x.length ≤ 9223372036854775807) (g : Slab l0.length start stride cnt blk) (d : Nat) (hd : d < l0.length)
    (hb : beyondT (rd l0 d) (rd start d) (rd stride d) (rd cnt d) (rd blk d) = true) : Ev (fun k => space_Check.f k l0 3 pts start stride cnt blk) 17 := by
  have hr := (elems_good he).1
  rw [← refused he g d hd hb (pts := pts)]
  exact check_ev l0 3 pts start stride cnt blk h0 h1 h1' (fit_rd g.l1 hr g.n1) (fit_rd g.l2 hr g.n2) (fit_rd g.l3 hr (fun i hi => ⟨by have := (g.n3 i hi).1; omega, (g.n3 i hi).2⟩)) (fit_rd g.l4 hr (fun i hi => ⟨by have := (g.n4 i hi).1; omega, (g.n4 i hi).2⟩))
theorem set_in {l : List Int} {r d : Nat} {x a b : Int} (hl : l.length = r) (hd : d < r) (h : ∀ i : Nat, i < r → a ≤ rd l i ∧ rd l i ≤ b) (hx : a ≤ x ∧ x ≤ b) : ∀ i : Nat, i < r → a ≤ rd (l.set d x) i ∧ rd (l.set d x) i ≤ b := by
  intro i hi
  rw [rd_set l d i x (by omega) (by omega)]
  split
  · exact hx
  · exact h i hi
theorem tmod_in {a : Int} (h0 : 0 ≤ a) (h1 : a ≤ 18446744073709551615) (m : Int) (hm : 0 < m) (hm1 : m ≤ 4611686018427387904) : wrap64 (Int.tmod a m) = a % m ∧ 0 ≤ a % m ∧ a % m < m := by
  rw [Int.tmod_eq_emod_of_nonneg h0]
  have := Int.emod_nonneg a (by omega : m ≠ 0)
  have := Int.emod_lt_of_pos a hm
  refine ⟨?_, by omega, by omega⟩
  unfold wrap64
  omega
theorem slab_of {l0 : List Int} {pts : List (List Int)} {start stride cnt blk : List Int} (h2 : Fit start) (h3 : Fit stride) (h4 : Fit cnt) (h5 : Fit blk) (he : (measuredT l0 3 pts start stride cnt blk).2 = 0) (hn : (measuredT l0 3 pts start stride cnt blk).1 ≠ 0) :
    (elemsT l0).2 = 0 ∧ Slab l0.length start stride cnt blk ∧ ∀ d : Nat, d < l0.length → 1 ≤ rd l0 d ∧ rd l0 d ≤ 1048576 ∧ rd start d < rd l0 d := by
  have hE : (elemsT l0).2 = 0 := by
    by_cases c : (elemsT l0).2 = 0
    · exact c
    · unfold measuredT at he
      rw [if_neg c] at he
      exact absurd he c
  obtain ⟨e1, e2, _, _⟩ := elems_good hE
  have hS : slabR l0.length start stride cnt blk = true := by
    by_cases c : slabR l0.length start stride cnt blk = true
    · exact c
    · unfold measuredT at he
      rw [if_pos hE, if_neg (by omega), if_neg (by omega), if_neg (fun h => c h.2)] at he
      cases he
  unfold measuredT at he hn
  rw [if_pos hE, if_neg (by omega), if_neg (by omega), if_pos ⟨rfl, hS⟩] at he hn
  simp only [slabR, List.all_cons, List.all_nil, Bool.and_true, Bool.and_eq_true] at hS
  obtain ⟨s1, s2, s3, s4⟩ := hS
  obtain ⟨a1, b1⟩ := right_nonneg s1
  obtain ⟨a2, b2⟩ := right_nonneg s2
  obtain ⟨a3, b3⟩ := right_nonneg s3
  obtain ⟨a4, b4⟩ := right_nonneg s4
  have hB : ¬ (manyT (cnt ++ blk) > 0 ∧ beyondAt l0 start stride cnt blk 0 = true) := by
    intro h
    rw [if_pos h] at he
    cases he
  rw [if_neg hB] at he hn
  have hc : (cnt ++ blk).contains 0 = false := by
    cases hc : (cnt ++ blk).contains 0
    · rfl
    · refine absurd ?_ hn
      simp only [manyT, hc, if_true]
      rfl
  have hz : ∀ x ∈ cnt ++ blk, x ≠ 0 := by
    rintro x hx rfl
    rw [List.contains_iff_mem.2 hx] at hc
    cases hc
  have p3 : ∀ i : Nat, i < l0.length → 1 ≤ rd cnt i := fun i hi => by
    have := neg_rd b3 i (by omega)
    have := hz _ (List.mem_append_left _ (List.getElem_mem (by omega : i < cnt.length)))
    rw [← rd_nat cnt i (by omega)] at this
    omega
  have p4 : ∀ i : Nat, i < l0.length → 1 ≤ rd blk i := fun i hi => by
    have := neg_rd b4 i (by omega)
    have := hz _ (List.mem_append_right _ (List.getElem_mem (by omega : i < blk.length)))
    rw [← rd_nat blk i (by omega)] at this
    omega
  have hm := many_pos (fun i hi => p3 i (by omega)) (fun i hi => p4 i (by omega))
  have hb : beyondAt l0 start stride cnt blk 0 = false := by
    cases hb : beyondAt l0 start stride cnt blk 0
    · rfl
    · exact absurd ⟨by omega, hb⟩ hB
  refine ⟨hE, ⟨a1, a2, a3, a4, fun i hi => ⟨neg_rd b1 i (by omega), (h2.rd i (by omega)).2⟩, fun i hi => ⟨neg_rd b2 i (by omega), (h3.rd i (by omega)).2⟩, fun i hi => ⟨p3 i hi, (h4.rd i (by omega)).2⟩, fun i hi => ⟨p4 i hi, (h5.rd i (by omega)).2⟩⟩, fun d hd => ?_⟩
  have hbd := any_range' hb d (by omega)
  simp only [beyondT, Bool.or_eq_false_iff, decide_eq_false_iff_not] at hbd
  have := neg_rd b1 d (by omega)
  have := p4 d hd
  have h9 := good_rd e2 d hd
  omega
theorem SpaceBeyond (l0 : List Int) (kind : Int) (pts : List (List Int)) (start stride cnt blk : List Int) (at_ more : Int) (h0 : Fit l0) (hs : Short pts start stride cnt blk)
    (h2 : Fit start) (h3 : Fit stride) (h4 : Fit cnt) (h5 : Fit blk) (ha : 0 ≤ at_ ∧ at_ ≤ 18446744073709551615) (hm : 0 ≤ more ∧ more ≤ 18446744073709551615) : ∃ k, slabvaultlaw12_SpaceBeyond.f k l0 kind pts start stride cnt blk at_ more = some true := by
  have h1 : pts.length ≤ 9223372036854775807 := by have := hs.1; omega
  have h1' : ∀ x ∈ pts, x.length ≤ 9223372036854775807 := fun x hx => by have := hs.2.1 x hx; omega
  refine Ev.rounds (g := fun k => slabvaultlaw12_SpaceBeyond.f k l0 kind pts start stride cnt blk at_ more) (r := true) ?_
  unfold slabvaultlaw12_SpaceBeyond.f
  refine Ev.bind (count_ev l0 kind pts start stride cnt blk h0 h1 h1' h2 h3 h4 h5) ?_
  have early : ((measuredT l0 kind pts start stride cnt blk).2 = 0 ∨ (measuredT l0 kind pts start stride cnt blk).1 = 0) → Ev (fun k => slabvaultlaw12_SpaceBeyond.j0 k l0 at_ more (measuredT l0 kind pts start stride cnt blk).1 (measuredT l0 kind pts start stride cnt blk).2 true kind pts start stride cnt blk) true := by
    intro hor
    refine Ev.step (f := fun k => (slabvaultlaw12_lives.f k).bind fun t => some t) (fun k => ?_) (Ev.bind lives_ev (Ev.now true))
    simp only [slabvaultlaw12_SpaceBeyond.j0, if_true]
    by_cases c : (measuredT l0 kind pts start stride cnt blk).2 = 0
    · rw [if_pos c]
    · rw [if_neg c, if_pos (by simpa [c] using hor)]
  have hor : (measuredT l0 kind pts start stride cnt blk).2 = 0 ∨ (measuredT l0 kind pts start stride cnt blk).1 = 0 := by
    unfold measuredT capT
    repeat' split
    all_goals first | exact .inl rfl | exact .inr rfl
  by_cases k3 : kind = 3
  · subst k3
    simp only [if_true]
    obtain ⟨b, hb, hf⟩ := great_evb 3 pts start stride cnt blk hs
    refine Ev.bind hb ?_
    cases b with
    | true =>
      simp only [if_true]
      exact early hor
    | false =>
      simp only [Bool.false_eq_true, if_false]
      obtain ⟨g1, g2⟩ := hf rfl
      by_cases ce : (measuredT l0 3 pts start stride cnt blk).2 = 0
      · simp only [if_pos ce]
        by_cases cn : (measuredT l0 3 pts start stride cnt blk).1 = 0
        · simp only [if_pos cn]
          exact early hor
        · simp only [if_neg cn]
          by_cases cl : l0.length = 0
          · rw [show ((l0.length : Int) == 0) = true by simp [cl]]
            exact early hor
          · rw [show ((l0.length : Int) == 0) = false from beq_eq_false_iff_ne.mpr (by omega)]
            obtain ⟨hE, G, D⟩ := slab_of (pts := pts) h2 h3 h4 h5 ce cn
            have hr := (elems_good hE).1
            have hw : IntKind.u64.wrap (l0.length : Int) = (l0.length : Int) := by
              simp [IntKind.wrap, IntKind.signed, IntKind.bits]
              omega
            obtain ⟨m1, m2, m3⟩ := tmod_in ha.1 ha.2 (l0.length : Int) (by omega) (by omega)
            obtain ⟨d, hd⟩ : ∃ d : Nat, at_ % (l0.length : Int) = d := ⟨(at_ % (l0.length : Int)).toNat, by omega⟩
            rw [hd] at m1 m3
            have hdl : d < l0.length := by omega
            obtain ⟨q1, q2, q3⟩ := tmod_in hm.1 hm.2 2305843009213693952 (by omega) (by omega)
            obtain ⟨r1, r2, r3⟩ := tmod_in hm.1 hm.2 4611686018427387904 (by omega) (by omega)
            obtain ⟨d1, d2, d3⟩ := D d hdl
            obtain ⟨n1, n1'⟩ := G.n1 d hdl
            have eo := own_ev 3 pts start stride cnt blk hs
            have e1 : wrap64 (rd start d + rd l0 d) = rd start d + rd l0 d := by unfold wrap64; omega
            have e2 : wrap64 (4611686018427387904 + more % 2305843009213693952) = 4611686018427387904 + more % 2305843009213693952 := by unfold wrap64; omega
            have e3 : wrap64 (rd l0 d + more % 4611686018427387904) = rd l0 d + more % 4611686018427387904 := by unfold wrap64; omega
            have e4 : wrap64 (2 + more % 4611686018427387904) = 2 + more % 4611686018427387904 := by unfold wrap64; omega
            have e5 : wrap64 (wrap64 (rd l0 d + 1) + more % 4611686018427387904) = rd l0 d + 1 + more % 4611686018427387904 := by
              have : wrap64 (rd l0 d + 1) = rd l0 d + 1 := by unfold wrap64; omega
              rw [this]
              unfold wrap64
              omega
            have G1 : ∀ x : Int, 0 ≤ x → x ≤ 9223372036854775807 → Slab l0.length (start.set d x) stride cnt blk := fun x x0 x1 => ⟨by rw [List.length_set]; exact G.l1, G.l2, G.l3, G.l4, set_in G.l1 hdl G.n1 ⟨x0, x1⟩, G.n2, G.n3, G.n4⟩
            have G2 : ∀ x y : Int, 0 ≤ x → x ≤ 9223372036854775807 → 1 ≤ y → y ≤ 9223372036854775807 → Slab l0.length start (stride.set d x) (cnt.set d y) blk := fun x y x0 x1 y0 y1 =>
              ⟨G.l1, by rw [List.length_set]; exact G.l2, by rw [List.length_set]; exact G.l3, G.l4, G.n1, set_in G.l2 hdl G.n2 ⟨x0, x1⟩, set_in G.l3 hdl G.n3 ⟨y0, y1⟩, G.n4⟩
            have G3 : ∀ x : Int, 1 ≤ x → x ≤ 9223372036854775807 → Slab l0.length start stride cnt (blk.set d x) := fun x x0 x1 => ⟨G.l1, G.l2, G.l3, by rw [List.length_set]; exact G.l4, G.n1, G.n2, G.n3, set_in G.l4 hdl G.n4 ⟨x0, x1⟩⟩
            have c1 := Slab.check hE h0 h1 h1' (G1 (rd start d + rd l0 d) (by omega) (by omega)) d hdl (pts := pts) (by
              rw [rd_set _ _ _ _ (by rw [G.l1]; exact hdl) (by rw [G.l1]; exact hdl), if_pos rfl]
              have := (G.n4 d hdl).1
              simp only [beyondT, Bool.or_eq_true, decide_eq_true_eq]
              left
              omega)
            have c2 := Slab.check hE h0 h1 h1' (G1 (4611686018427387904 + more % 2305843009213693952) (by omega) (by omega)) d hdl (pts := pts) (by
              rw [rd_set _ _ _ _ (by rw [G.l1]; exact hdl) (by rw [G.l1]; exact hdl), if_pos rfl]
              have := (G.n4 d hdl).1
              simp only [beyondT, Bool.or_eq_true, decide_eq_true_eq]
              left
              omega)
            have c3 := Slab.check hE h0 h1 h1' (G2 (rd l0 d + more % 4611686018427387904) (2 + more % 4611686018427387904) (by omega) (by omega) (by omega) (by omega)) d hdl (pts := pts) (by
              rw [rd_set _ _ _ _ (by rw [G.l2]; exact hdl) (by rw [G.l2]; exact hdl), if_pos rfl, rd_set _ _ _ _ (by rw [G.l3]; exact hdl) (by rw [G.l3]; exact hdl), if_pos rfl]
              have := (G.n4 d hdl).1
              simp only [beyondT, Bool.or_eq_true, Bool.and_eq_true, decide_eq_true_eq]
              by_cases o : rd l0 d - rd start d < rd blk d
              · exact .inl o
              · right
                refine ⟨by omega, ?_⟩
                rw [Int.ediv_eq_zero_of_lt (by omega) (by omega)]
                omega)
            have c4 := Slab.check hE h0 h1 h1' (G3 (rd l0 d + 1 + more % 4611686018427387904) (by omega) (by omega)) d hdl (pts := pts) (by
              rw [rd_set _ _ _ _ (by rw [G.l4]; exact hdl) (by rw [G.l4]; exact hdl), if_pos rfl]
              simp only [beyondT, Bool.or_eq_true, decide_eq_true_eq]
              left
              omega)
            refine Ev.step (f := fun k => (slabvaultlaw12_own.f k 3 pts start stride cnt blk).bind fun bt252 => if (d : Int) < (bt252.2.2.1.length : Int) then (space_Check.f k l0 bt252.1 bt252.2.1 (bt252.2.2.1.set d (wrap64 (rd bt252.2.2.1 d + rd l0 d))) bt252.2.2.2.1 bt252.2.2.2.2.1 bt252.2.2.2.2.2).bind fun t272 => if t272 = 17 then
              (space_Check.f k l0 bt252.1 bt252.2.1 ((bt252.2.2.1.set d (wrap64 (rd bt252.2.2.1 d + rd l0 d))).set d (4611686018427387904 + more % 2305843009213693952)) bt252.2.2.2.1 bt252.2.2.2.2.1 bt252.2.2.2.2.2).bind fun t274 => if t274 = 17 then
              (slabvaultlaw12_own.f k 3 pts start stride cnt blk).bind fun bt275 => if (d : Int) < (bt275.2.2.2.2.1.length : Int) then if (d : Int) < (bt275.2.2.2.1.length : Int) then (slabvaultlaw12_own.f k 3 pts start stride cnt blk).bind fun bt295 => if (d : Int) < (bt295.2.2.2.2.2.length : Int) then
              (space_Check.f k l0 bt275.1 bt275.2.1 bt275.2.2.1 (bt275.2.2.2.1.set d (rd l0 d + more % 4611686018427387904)) (bt275.2.2.2.2.1.set d (2 + more % 4611686018427387904)) bt275.2.2.2.2.2).bind fun t314 => if t314 = 17 then
              (space_Check.f k l0 bt295.1 bt295.2.1 bt295.2.2.1 bt295.2.2.2.1 bt295.2.2.2.2.1 (bt295.2.2.2.2.2.set d (rd l0 d + 1 + more % 4611686018427387904))).bind fun t315 => if t315 = 17 then (slabvaultlaw12_lives.f k).bind fun t316 => some t316 else none else none else none else none else none else none else none else none) (fun k => ?_) ?_
            · simp only [slabvaultlaw12_SpaceBeyond.j0, Bool.false_eq_true, if_false]
              rw [hw, if_neg (by omega), m1]
              simp only [q1, r1, e2, e3, e4, e5, Option.bind_some, Int.toNat_natCast]
              simp only [if_pos (show (0 : Int) ≤ (d : Int) by omega), if_pos (show (d : Int) < (l0.length : Int) by omega)]
            · refine Ev.bind eo ?_
              simp only [e1]
              simp only [if_pos (show (d : Int) < (start.length : Int) by rw [G.l1]; omega)]
              refine Ev.bind c1 ?_
              simp only [if_true, List.set_set]
              refine Ev.bind c2 ?_
              simp only [if_true]
              refine Ev.bind eo ?_
              simp only []
              simp only [if_pos (show (d : Int) < (cnt.length : Int) by rw [G.l3]; omega), if_pos (show (d : Int) < (stride.length : Int) by rw [G.l2]; omega)]
              refine Ev.bind eo ?_
              simp only []
              simp only [if_pos (show (d : Int) < (blk.length : Int) by rw [G.l4]; omega)]
              refine Ev.bind c3 ?_
              simp only [if_true]
              refine Ev.bind c4 ?_
              simp only [if_true]
              exact Ev.bind lives_ev (Ev.now true)
      · simp only [if_neg ce]
        exact early hor
  · simp only [if_neg k3]
    exact early hor
end Go.Proofs.Ytjbjofmcmjojlaa.Pure
end
