/- What the program's layer 12 answers of a selection, in closed form: how many tuples, or what is wrong; and where they lie. -/
import Derived.Test.YtjbjofmcmjojlaaPlain12
namespace Go.Proofs.Ytjbjofmcmjojlaa.Pure
open Go.RowKit Go.Proofs.Ytjbjofmcmjojlaa.Wk Go.Proofs.YtjbjofmcmjojlaaW.PrintWords Go.Proofs.YtjbjofmcmjojlaaW.PrintLast Go.Proofs.YtjbjofmcmjojlaaQ

/-- Numbers that fit. -/
def Fit (l : List Int) : Prop := l.length ≤ 9223372036854775807 ∧ ∀ x ∈ l, -9223372036854775808 ≤ x ∧ x ≤ 9223372036854775807
theorem Fit.rd {l : List Int} (h : Fit l) (i : Nat) (hi : i < l.length) : -9223372036854775808 ≤ rd l i ∧ rd l i ≤ 9223372036854775807 := by
  rw [rd_nat l i hi]
  exact h.2 _ (List.getElem_mem hi)

def manyT (l : List Int) : Int := if l.contains 0 = true then 0 else manyLoop l l.length 0 1
def beyondT (dim start stride cnt blk : Int) : Bool := decide (dim - start < blk) || (decide (0 < stride) && decide (cnt - 1 > (dim - start - blk) / stride))
def outAt (l0 x : List Int) (i : Nat) : Bool := (List.range' i (x.length - i)).any fun d => decide (rd x d ≥ rd l0 d)
def outT (l0 : List Int) (pts : List (List Int)) : Bool := pts.any fun x => outAt l0 x 0
def beyondAt (l0 start stride cnt blk : List Int) (i : Nat) : Bool := (List.range' i (l0.length - i)).any fun d => beyondT (rd l0 d) (rd start d) (rd stride d) (rd cnt d) (rd blk d)
def capT (n : Int) : Int × Int := if n > 4096 then (0, 18) else (n, 0)
def slabR (r : Nat) (start stride cnt blk : List Int) : Bool := [start, stride, cnt, blk].all (rightOne r)
def measuredT (l0 : List Int) (kind : Int) (pts : List (List Int)) (start stride cnt blk : List Int) : Int × Int :=
  if (elemsT l0).2 = 0 then
    if kind = 1 then capT (elemsT l0).1
    else if kind = 2 ∧ pts.all (rightOne l0.length) = true then (if outT l0 pts = true then (0, 17) else capT pts.length)
    else if kind = 3 ∧ slabR l0.length start stride cnt blk = true then
      (if manyT (cnt ++ blk) > 0 ∧ beyondAt l0 start stride cnt blk 0 = true then (0, 17) else capT (manyT (cnt ++ blk)))
    else (0, 2)
  else (0, (elemsT l0).2)

theorem range'_any_succ (p : Nat → Bool) (i n : Nat) (h : i < n) : (List.range' i (n - i)).any p = (p i || (List.range' (i + 1) (n - (i + 1))).any p) := by
  rw [show n - i = (n - (i + 1)) + 1 by omega, List.range'_succ, List.any_cons]

theorem beyond_eq {dim start stride cnt blk : Int} (h1 : 0 ≤ dim ∧ dim ≤ 1048576) (h2 : 0 ≤ start ∧ start ≤ 9223372036854775807) (h3 : 0 ≤ stride) (h4 : 0 ≤ cnt ∧ cnt ≤ 9223372036854775807) (h5 : 0 ≤ blk ∧ blk ≤ 9223372036854775807) :
    space_beyond.f dim start stride cnt blk = some (beyondT dim start stride cnt blk) := by
  unfold space_beyond.f beyondT
  have w1 : wrap64 (dim - start) = dim - start := by unfold wrap64; omega
  rw [w1]
  by_cases c : dim - start < blk
  · rw [if_pos c]
    simp [c]
  · rw [if_neg c]
    have w2 : wrap64 (dim - start - blk) = dim - start - blk := by unfold wrap64; omega
    have w3 : wrap64 (cnt - 1) = cnt - 1 := by unfold wrap64; omega
    rw [w2, w3]
    by_cases d : stride > 0
    · rw [if_pos d, if_neg (by omega), Int.tdiv_eq_ediv_of_nonneg (by omega)]
      have q0 : 0 ≤ (dim - start - blk) / stride := Int.ediv_nonneg (by omega) (by omega)
      have q1 : (dim - start - blk) / stride ≤ dim - start - blk := Int.ediv_le_self _ (by omega)
      have w4 : wrap64 ((dim - start - blk) / stride) = (dim - start - blk) / stride := by unfold wrap64; omega
      rw [w4]
      simp [c, d]
    · rw [if_neg d]
      simp [c, d]

theorem meas_l1 (l0 : List Int) (n : Int) (pts : List (List Int)) (hp : pts.length ≤ 9223372036854775807) (x : List Int) (hx : x.length = l0.length) (hm : l0.length ≤ 9223372036854775807) (m : Nat)
    (r : Int × Int) (hr : Ev (fun k => space_measured.l0 k l0 n pts pts.length ((m + 1 : Nat) : Int)) r) (hmp : m < pts.length) : ∀ (d i : Nat), x.length - i = d → i ≤ x.length →
    Ev (fun k => space_measured.l1 k l0 n pts pts.length m x x.length i) (if outAt l0 x i = true then (0, 17) else r) := by
  intro d
  induction d with
  | zero =>
    intro i h hi
    have e : outAt l0 x i = false := by unfold outAt; rw [show x.length - i = 0 by omega]; rfl
    rw [e]
    refine Ev.step (f := fun k => space_measured.l0 k l0 n pts pts.length ((m + 1 : Nat) : Int)) (fun k => ?_) hr
    simp only [space_measured.l1]
    rw [if_neg (by omega), wrap_up hmp hp]
  | succ d ih =>
    intro i h hi
    have hlt : i < x.length := by omega
    have e : outAt l0 x i = (decide (rd x i ≥ rd l0 i) || outAt l0 x (i + 1)) := range'_any_succ _ _ _ hlt
    rw [e]
    by_cases c : rd x i ≥ rd l0 i
    · refine Ev.step (f := fun _ => some (0, 17)) (fun k => ?_) (by rw [decide_eq_true c]; exact Ev.now _)
      simp only [space_measured.l1]
      rw [if_pos (by omega), if_pos (by omega), if_pos (by omega), if_pos (by omega), if_pos c]
    · refine Ev.step (f := fun k => space_measured.l1 k l0 n pts pts.length m x x.length ((i + 1 : Nat) : Int)) (fun k => ?_) (by rw [decide_eq_false c, Bool.false_or]; exact ih (i + 1) (by omega) (by omega))
      simp only [space_measured.l1]
      rw [if_pos (by omega), if_pos (by omega), if_pos (by omega), if_pos (by omega), if_neg c, wrap_up hlt (by omega)]
theorem meas_l0 (l0 : List Int) (n : Int) (pts : List (List Int)) (hp : pts.length ≤ 9223372036854775807) (hm : l0.length ≤ 9223372036854775807) (hr : ∀ x ∈ pts, x.length = l0.length) : ∀ (d i : Nat), pts.length - i = d → i ≤ pts.length →
    Ev (fun k => space_measured.l0 k l0 n pts pts.length i) (if (pts.drop i).any (fun x => outAt l0 x 0) = true then (0, 17) else capT n) := by
  intro d
  induction d with
  | zero =>
    intro i h hi
    rw [List.drop_eq_nil_of_le (by omega)]
    refine Ev.step (f := fun _ => some (capT n)) (fun k => ?_) (by rw [if_neg (by simp)]; exact Ev.now _)
    simp only [space_measured.l0]
    rw [if_neg (by omega)]
    unfold capT
    split <;> rfl
  | succ d ih =>
    intro i h hi
    have hlt : i < pts.length := by omega
    have hx : rd_L1 pts i = pts[i] := by simp [rd_L1, List.getD_eq_getElem?_getD, hlt]
    have hl := hr _ (List.getElem_mem hlt)
    rw [List.drop_eq_getElem_cons hlt, List.any_cons]
    refine Ev.step (f := fun k => space_measured.l1 k l0 n pts pts.length i pts[i] (pts[i].length : Int) ((0 : Nat) : Int)) (fun k => ?_) ?_
    · simp only [space_measured.l0]
      rw [if_pos (by omega), if_pos (by omega), if_pos (by omega), hx]
      rfl
    · have := meas_l1 l0 n pts hp pts[i] hl hm i _ (ih (i + 1) (by omega) (by omega)) hlt pts[i].length 0 (by omega) (by omega)
      cases c : outAt l0 pts[i] 0 with
      | true => rw [c] at this; simpa using this
      | false => rw [c] at this; simpa using this

theorem meas_l2 (l0 : List Int) (n kind : Int) (pts : List (List Int)) (start stride cnt blk : List Int) (hm : l0.length ≤ 9223372036854775807) (h0 : l0.any badDim = false)
    (e1 : start.length = l0.length) (e2 : stride.length = l0.length) (e3 : cnt.length = l0.length) (e4 : blk.length = l0.length)
    (f1 : ∀ d : Nat, d < l0.length → 0 ≤ rd start d ∧ rd start d ≤ 9223372036854775807) (f2 : ∀ d : Nat, d < l0.length → 0 ≤ rd stride d) (f3 : ∀ d : Nat, d < l0.length → 0 ≤ rd cnt d ∧ rd cnt d ≤ 9223372036854775807) (f4 : ∀ d : Nat, d < l0.length → 0 ≤ rd blk d ∧ rd blk d ≤ 9223372036854775807) :
    ∀ (d i : Nat), l0.length - i = d → i ≤ l0.length →
    Ev (fun k => space_measured.l2 k l0 n l0.length i kind pts start stride cnt blk) (if n > 0 ∧ beyondAt l0 start stride cnt blk i = true then (0, 17) else capT n) := by
  intro d
  induction d with
  | zero =>
    intro i h hi
    have e : beyondAt l0 start stride cnt blk i = false := by unfold beyondAt; rw [show l0.length - i = 0 by omega]; rfl
    rw [e, if_neg (by simp)]
    refine Ev.step (f := fun _ => some (capT n)) (fun k => ?_) (Ev.now _)
    simp only [space_measured.l2]
    rw [if_neg (by omega)]
    unfold capT
    split <;> rfl
  | succ d ih =>
    intro i h hi
    have hlt : i < l0.length := by omega
    have e : beyondAt l0 start stride cnt blk i = (beyondT (rd l0 i) (rd start i) (rd stride i) (rd cnt i) (rd blk i) || beyondAt l0 start stride cnt blk (i + 1)) := range'_any_succ _ _ _ hlt
    have hb := beyond_eq (good_rd h0 i hlt) (f1 i hlt) (f2 i hlt) (f3 i hlt) (f4 i hlt)
    rw [e]
    by_cases c : n > 0
    · refine Ev.step (f := fun k => if beyondT (rd l0 i) (rd start i) (rd stride i) (rd cnt i) (rd blk i) = true then some (0, 17) else space_measured.l2 k l0 n l0.length ((i + 1 : Nat) : Int) kind pts start stride cnt blk) (fun k => ?_) ?_
      · simp only [space_measured.l2]
        rw [if_pos (by omega), if_pos c, if_pos (by omega), if_pos (by omega), if_pos (by omega), if_pos (by omega), if_pos (by omega), if_pos (by omega), hb, Option.bind_some, wrap_up hlt hm]
      · cases b : beyondT (rd l0 i) (rd start i) (rd stride i) (rd cnt i) (rd blk i) with
        | true => simp only [if_true, Bool.true_or, and_true]; rw [if_pos c]; exact Ev.now _
        | false => simp only [Bool.false_eq_true, if_false, Bool.false_or]; exact ih (i + 1) (by omega) (by omega)
    · refine Ev.step (f := fun k => space_measured.l2 k l0 n l0.length ((i + 1 : Nat) : Int) kind pts start stride cnt blk) (fun k => ?_) ?_
      · simp only [space_measured.l2]
        rw [if_pos (by omega), if_neg c, wrap_up hlt hm]
      · have := ih (i + 1) (by omega) (by omega)
        rw [if_neg (fun h => c h.1)] at this ⊢
        exact this

theorem right_nonneg {l : List Int} {r : Nat} (h : rightOne r l = true) : l.length = r ∧ l.any negDim = false := by
  unfold rightOne at h
  rw [Bool.and_eq_true, decide_eq_true_eq, Bool.not_eq_true'] at h
  exact ⟨by omega, h.2⟩
theorem neg_rd {l : List Int} (h : l.any negDim = false) (i : Nat) (hi : i < l.length) : 0 ≤ rd l i := by
  rw [rd_nat l i hi]
  have := List.any_eq_false.1 h l[i] (List.getElem_mem hi)
  simp [negDim] at this
  omega
theorem many_eq {l : List Int} (h : l.length ≤ 9223372036854775807) (hn : l.any negDim = false) : space_many.f 1 l = some (manyT l) := by
  unfold space_many.f manyT
  rw [if_pos ⟨rfl, by unfold maxLen; omega, hn⟩]
theorem right_eq {a : Int} {l : List (List Int)} (h : l.length ≤ 9223372036854775807) (hl : ∀ x ∈ l, x.length ≤ 9223372036854775807) : space_right.f a l = some (l.all (rightOne a)) := by
  unfold space_right.f
  rw [if_pos ⟨by unfold maxLen; omega, fun x hx => by have := hl x hx; unfold maxLen; omega⟩]

theorem measured_ev (l0 : List Int) (kind : Int) (pts : List (List Int)) (start stride cnt blk : List Int) (h0 : Fit l0) (h1 : pts.length ≤ 9223372036854775807) (h1' : ∀ x ∈ pts, x.length ≤ 9223372036854775807)
    (h2 : Fit start) (h3 : Fit stride) (h4 : Fit cnt) (h5 : Fit blk) : Ev (fun k => space_measured.f k l0 kind pts start stride cnt blk) (measuredT l0 kind pts start stride cnt blk) := by
  unfold space_measured.f measuredT
  rw [elements_eq]
  simp only [Option.bind_some]
  by_cases he : (elemsT l0).2 = 0
  · rw [if_pos he]
    simp only [if_pos he]
    have hgood : l0.length ≤ 4 ∧ l0.any badDim = false := by
      unfold elemsT at he
      by_cases c : 4 < l0.length ∨ l0.any badDim = true
      · rw [if_pos c] at he; simp at he
      · rw [not_or] at c
        exact ⟨by omega, by simpa using c.2⟩
    by_cases k1 : kind = 1
    · rw [if_pos k1]
      simp only [if_pos k1]
      unfold capT
      split <;> exact Ev.now _
    · rw [if_neg k1]
      simp only [if_neg k1]
      by_cases k2 : kind = 2
      · subst k2
        rw [right_eq h1 h1']
        simp only [if_true, Option.bind_some]
        cases hr : pts.all (rightOne (l0.length : Int)) with
        | true =>
          rw [if_pos ⟨trivial, rfl⟩]
          refine Ev.step (f := fun k => space_measured.l0 k l0 pts.length pts pts.length ((0 : Nat) : Int)) (fun k => ?_) ?_
          · simp only [space_measured.j0, if_true]
            rfl
          · have hlen : ∀ x ∈ pts, x.length = l0.length := fun x hx => (right_nonneg (List.all_eq_true.1 hr x hx)).1
            have := meas_l0 l0 pts.length pts h1 h0.1 hlen pts.length 0 (by omega) (by omega)
            rw [List.drop_zero] at this
            exact this
        | false =>
          rw [if_neg (by simp), if_neg (by simp)]
          refine Ev.step (f := fun k => space_measured.j3 k l0 false 2 pts start stride cnt blk) (fun k => ?_) ?_
          · simp only [space_measured.j0]
            rw [if_neg (by simp), if_neg (by omega)]
          · refine Ev.step (f := fun _ => some (0, 2)) (fun k => ?_) (Ev.now _)
            simp only [space_measured.j3]
            rw [if_neg (by simp)]
      · rw [if_neg (fun h => k2 h.1)]
        simp only [if_neg k2]
        by_cases k3 : kind = 3
        · subst k3
          have hr4 : space_right.f (l0.length : Int) [start, stride, cnt, blk] = some (slabR l0.length start stride cnt blk) := right_eq (by simp) (by
            intro x hx
            simp only [List.mem_cons, List.not_mem_nil, or_false] at hx
            rcases hx with rfl | rfl | rfl | rfl
            · exact h2.1
            · exact h3.1
            · exact h4.1
            · exact h5.1)
          refine Ev.step (f := fun k => space_measured.j3 k l0 (slabR l0.length start stride cnt blk) 3 pts start stride cnt blk) (fun k => ?_) ?_
          · simp only [space_measured.j0]
            rw [if_neg (by simp), if_pos trivial, hr4, Option.bind_some]
          · cases hs : slabR l0.length start stride cnt blk with
            | false =>
              rw [if_neg (by simp)]
              refine Ev.step (f := fun _ => some (0, 2)) (fun k => ?_) (Ev.now _)
              simp only [space_measured.j3]
              rw [if_neg (by simp)]
            | true =>
              rw [if_pos ⟨rfl, rfl⟩]
              unfold slabR at hs
              simp only [List.all_cons, List.all_nil, Bool.and_true, Bool.and_eq_true] at hs
              obtain ⟨r1, r2, r3, r4⟩ := hs
              obtain ⟨e1, n1⟩ := right_nonneg r1
              obtain ⟨e2, n2⟩ := right_nonneg r2
              obtain ⟨e3, n3⟩ := right_nonneg r3
              obtain ⟨e4, n4⟩ := right_nonneg r4
              have hcl : slices_Clone_int_int.f cnt = some cnt := by unfold slices_Clone_int_int.f; rw [if_pos (by omega)]
              have hmy := many_eq (l := cnt ++ blk) (by rw [List.length_append]; omega) (by rw [List.any_append, n3, n4]; rfl)
              refine Ev.step (f := fun k => space_measured.l2 k l0 (manyT (cnt ++ blk)) l0.length ((0 : Nat) : Int) 3 pts start stride cnt blk) (fun k => ?_) ?_
              · simp only [space_measured.j3, if_true]
                rw [hcl, Option.bind_some, if_pos (by omega), hmy, Option.bind_some]
                rfl
              · exact meas_l2 l0 _ 3 pts start stride cnt blk h0.1 hgood.2 e1 e2 e3 e4 (fun d hd => ⟨neg_rd n1 d (by omega), (h2.rd d (by omega)).2⟩) (fun d hd => neg_rd n2 d (by omega))
                  (fun d hd => ⟨neg_rd n3 d (by omega), (h4.rd d (by omega)).2⟩) (fun d hd => ⟨neg_rd n4 d (by omega), (h5.rd d (by omega)).2⟩) l0.length 0 (by omega) (by omega)
        · rw [if_neg (fun h => k3 h.1)]
          refine Ev.step (f := fun k => space_measured.j3 k l0 false kind pts start stride cnt blk) (fun k => ?_) ?_
          · simp only [space_measured.j0]
            rw [if_neg (by simp), if_neg k3]
          · refine Ev.step (f := fun _ => some (0, 2)) (fun k => ?_) (Ev.now _)
            simp only [space_measured.j3]
            rw [if_neg (by simp)]
  · rw [if_neg he]
    simp only [if_neg he]
    exact Ev.now _
end Go.Proofs.Ytjbjofmcmjojlaa.Pure
