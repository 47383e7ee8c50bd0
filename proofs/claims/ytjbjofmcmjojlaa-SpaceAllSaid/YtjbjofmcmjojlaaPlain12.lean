/- What the printed functions of layer 12 answer, in closed form: the reference's Elements, the comparison of lists, the examples. -/
import Derived.Test.YtjbjofmcmjojlaaWk20
namespace Go.Proofs.Ytjbjofmcmjojlaa.Pure
open Go.RowKit Go.Proofs.Ytjbjofmcmjojlaa.Wk Go.Proofs.YtjbjofmcmjojlaaW.PrintWords Go.Proofs.YtjbjofmcmjojlaaW.PrintLast

theorem wrap_up {i : Nat} {n : Nat} (h : i < n) (hn : n ≤ 9223372036854775807) : wrap64 ((i : Int) + 1) = ((i + 1 : Nat) : Int) := by unfold wrap64; omega
theorem rd_nat (l : List Int) (i : Nat) (h : i < l.length) : rd l (i : Int) = l[i] := by simp [rd, h]

theorem lives_ev : Ev (fun k => slabvaultlaw12_lives.f k) true := Ev.of (fun k => slabvaultlaw12_lives.mono k) (k := 60) (by decide +kernel)

def elemsT (l0 : List Int) : Int × Int := if 4 < l0.length ∨ l0.any badDim = true then (0, 2) else if l0.contains 0 = true then (0, 0) else prodLoop l0 l0.length 0 1
theorem elements_eq (l : List Int) : space_Elements.f l = some (elemsT l) := rfl

theorem ref_l2 (l : List Int) (hm : l.length ≤ 9223372036854775807) (hb : l.any badDim = false) : ∀ (d i : Nat) (n : Int), l.length - i = d → i ≤ l.length → 0 ≤ n → n ≤ 1048576 →
    Ev (fun k => slabvaultref12_Elements.l2 k l n i) (prodLoop l d i n) := by
  intro d
  induction d with
  | zero =>
    intro i n h hi _ _
    refine Ev.step (f := fun _ => some (n, 0)) (fun k => ?_) (Ev.now _)
    simp only [slabvaultref12_Elements.l2]
    rw [if_neg (by omega)]
  | succ d ih =>
    intro i n h hi h0 h1
    have hlt : i < l.length := by omega
    have hg := good_rd hb i hlt
    have hy1 : 0 ≤ n * rd l i := Int.mul_nonneg h0 hg.1
    have hy2 : n * rd l i ≤ 1048576 * 1048576 := Int.mul_le_mul h1 hg.2 hg.1 (by omega)
    have hw : wrap64 (n * rd l i) = n * rd l i := by unfold wrap64; omega
    by_cases hbig : n * rd l i > 1048576
    · refine Ev.step (f := fun _ => some (0, 3)) (fun k => ?_) (by rw [prodLoop, if_pos hbig]; exact Ev.now _)
      simp only [slabvaultref12_Elements.l2]
      rw [if_pos (by omega), if_pos (by omega), hw, if_pos hbig]
    · refine Ev.step (f := fun k => slabvaultref12_Elements.l2 k l (n * rd l i) ((i + 1 : Nat) : Int)) (fun k => ?_) (by rw [prodLoop, if_neg hbig]; exact ih (i + 1) _ (by omega) (by omega) hy1 (by omega))
      simp only [slabvaultref12_Elements.l2]
      rw [if_pos (by omega), if_pos (by omega), hw, if_neg hbig, wrap_up hlt hm]
theorem ref_l1 (l : List Int) (hm : l.length ≤ 9223372036854775807) (hb : l.any badDim = false) : ∀ (d i : Nat), l.length - i = d → i ≤ l.length →
    Ev (fun k => slabvaultref12_Elements.l1 k l 1 i) (if (l.drop i).contains 0 = true then (0, 0) else prodLoop l l.length 0 1) := by
  intro d
  induction d with
  | zero =>
    intro i h hi
    rw [List.drop_eq_nil_of_le (by omega)]
    refine Ev.step (f := fun k => slabvaultref12_Elements.l2 k l 1 0) (fun k => ?_) (ref_l2 l hm hb l.length 0 1 (by omega) (by omega) (by omega) (by omega))
    simp only [slabvaultref12_Elements.l1]
    rw [if_neg (by omega)]
  | succ d ih =>
    intro i h hi
    have hlt : i < l.length := by omega
    rw [List.drop_eq_getElem_cons hlt, List.contains_cons]
    have e := rd_nat l i hlt
    by_cases hz : rd l i = 0
    · refine Ev.step (f := fun _ => some (0, 0)) (fun k => ?_) (by rw [e] at hz; rw [hz]; exact Ev.now _)
      simp only [slabvaultref12_Elements.l1]
      rw [if_pos (by omega), if_pos (by omega), if_pos hz]
    · refine Ev.step (f := fun k => slabvaultref12_Elements.l1 k l 1 ((i + 1 : Nat) : Int)) (fun k => ?_) (by
        have : (0 == l[i]) = false := by
          rw [e] at hz
          exact beq_eq_false_iff_ne.2 (fun h0 => hz h0.symm)
        rw [this, Bool.false_or]
        exact ih (i + 1) (by omega) (by omega))
      simp only [slabvaultref12_Elements.l1]
      rw [if_pos (by omega), if_pos (by omega), if_neg hz, wrap_up hlt hm]
theorem ref_l0 (l : List Int) (hm : l.length ≤ 9223372036854775807) : ∀ (d i : Nat), l.length - i = d → i ≤ l.length → (l.take i).any badDim = false →
    Ev (fun k => slabvaultref12_Elements.l0 k l 1 i) (if (l.drop i).any badDim = true then (0, 2) else if l.contains 0 = true then (0, 0) else prodLoop l l.length 0 1) := by
  intro d
  induction d with
  | zero =>
    intro i h hi hb
    rw [List.drop_eq_nil_of_le (by omega)]
    rw [List.take_of_length_le (by omega)] at hb
    refine Ev.step (f := fun k => slabvaultref12_Elements.l1 k l 1 0) (fun k => ?_) (by
      have := ref_l1 l hm hb l.length 0 (by omega) (by omega)
      rw [List.drop_zero] at this
      rw [if_neg (by simp)]
      exact this)
    simp only [slabvaultref12_Elements.l0]
    rw [if_neg (by omega)]
  | succ d ih =>
    intro i h hi hb
    have hlt : i < l.length := by omega
    have e := rd_nat l i hlt
    rw [List.drop_eq_getElem_cons hlt, List.any_cons]
    by_cases h1 : rd l i < 0
    · refine Ev.step (f := fun _ => some (0, 2)) (fun k => ?_) (by
        have : badDim l[i] = true := by rw [e] at h1; simp [badDim, h1]
        rw [this]; exact Ev.now _)
      simp only [slabvaultref12_Elements.l0]
      rw [if_pos (by omega), if_pos (by omega), if_pos h1]
    · by_cases h2 : rd l i > 1048576
      · refine Ev.step (f := fun _ => some (0, 2)) (fun k => ?_) (by
          have : badDim l[i] = true := by rw [e] at h2; simp [badDim]; omega
          rw [this]; exact Ev.now _)
        simp only [slabvaultref12_Elements.l0]
        rw [if_pos (by omega), if_pos (by omega), if_neg h1, if_pos h2]
      · have hg : badDim l[i] = false := by rw [e] at h1 h2; simp [badDim]; omega
        refine Ev.step (f := fun k => slabvaultref12_Elements.l0 k l 1 ((i + 1 : Nat) : Int)) (fun k => ?_) (by
          rw [hg, Bool.false_or]
          exact ih (i + 1) (by omega) (by omega) (by rw [List.take_succ_eq_append_getElem hlt, List.any_append, hb]; simp [hg]))
        simp only [slabvaultref12_Elements.l0]
        rw [if_pos (by omega), if_pos (by omega), if_neg h1, if_neg h2, wrap_up hlt hm]
theorem refElements_ev (l : List Int) (hm : l.length ≤ 9223372036854775807) : Ev (fun k => slabvaultref12_Elements.f k l) (elemsT l) := by
  unfold elemsT
  by_cases h4 : 4 < l.length
  · rw [if_pos (.inl h4)]
    refine Ev.congr (f := fun _ => some (0, 2)) (fun k => ?_) (Ev.now _)
    unfold slabvaultref12_Elements.f
    rw [if_pos (by omega)]
  · refine Ev.congr (f := fun k => slabvaultref12_Elements.l0 k l 1 0) (fun k => ?_) ?_
    · unfold slabvaultref12_Elements.f
      rw [if_neg (by omega)]
    · have := ref_l0 l hm l.length 0 (by omega) (by omega) (by simp)
      simpa [h4] using this
end Go.Proofs.Ytjbjofmcmjojlaa.Pure
