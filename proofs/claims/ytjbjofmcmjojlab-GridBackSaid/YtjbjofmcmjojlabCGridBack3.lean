-- Texts that the row GridBack leans on, joined by wip/tools/mkclaim.py: PlainCut4, PlainCut5, PlainPaste, PlainHeavy, PureGridBack
import Derived.Test.YtjbjofmcmjojlabCGridBack2
section
namespace Go.Proofs.Ytjbjofmcmjojlab.Pure
open Go.RowKit Go.Proofs.Ytjbjofmcmjojlab.Wk Go.Proofs.YtjbjofmcmjojlabW.PrintWords Go.Proofs.YtjbjofmcmjojlabW.PrintLast Go.Proofs.YtjbjofmcmjojlabW.PrintMore Go.Proofs.YtjbjofmcmjojlabQ
set_option linter.unusedVariables false
set_option linter.unusedSimpArgs false
def sizedT (z n m : Int) : Int := if z < 1 ∨ 256 < z then 2 else if 65536 < n * z ∨ 65536 < m * z then 3 else 0
theorem wrap_size {n z : Int} (h0 : 0 ≤ n) (h1 : n ≤ 1048576) (hz : 1 ≤ z) (hz2 : z ≤ 256) : wrap64 (n * z) = n * z := by
  have a1 : 0 ≤ n * z := Int.mul_nonneg h0 (by omega)
  have a2 : n * z ≤ 1048576 * 256 := Int.mul_le_mul h1 hz2 (by omega) (by omega)
  generalize n * z = q at *
  unfold wrap64; omega
theorem sized_ev {D H : List Int} {E F : List Nat} (hD : Ext D E) (hH : Ext H F) (z : Int) : Ev (fun k => grid_sized.f k z [D, H]) (sizedT z (prodN E : Nat) (prodN F : Nat)) := by
  have r0 : rd_L1 [D, H] 0 = D := rfl
  have r1 : rd_L1 [D, H] 1 = H := rfl
  have two : ∀ k, grid_sized.j0 (k + 1) z [D, H] true = some 2 := fun k => by simp only [grid_sized.j0, if_true]
  unfold sizedT
  by_cases h1 : z < 1
  · rw [if_pos (.inl h1)]
    refine Ev.congr (f := fun k => grid_sized.j0 k z [D, H] true) (fun k => ?_) (Ev.step two (Ev.now _))
    unfold grid_sized.f
    rw [if_pos h1]
  by_cases h2 : 256 < z
  · rw [if_pos (.inr h2)]
    refine Ev.congr (f := fun k => grid_sized.j0 k z [D, H] true) (fun k => ?_) (Ev.step two (Ev.now _))
    unfold grid_sized.f
    rw [if_neg h1, decide_eq_true h2]
  rw [if_neg (by rintro (h | h) <;> contradiction)]
  have hwD := wrap_size (n := ((prodN E : Nat) : Int)) (by omega) (by have := hD.prod; omega) (show 1 ≤ z by omega) (show z ≤ 256 by omega)
  have hwH := wrap_size (n := ((prodN F : Nat) : Int)) (by omega) (by have := hH.prod; omega) (show 1 ≤ z by omega) (show z ≤ 256 by omega)
  have hD1 : (elemsT D).1 = ((prodN E : Nat) : Int) := by rw [hD.elems]
  have hH1 : (elemsT H).1 = ((prodN F : Nat) : Int) := by rw [hH.elems]
  refine Ev.congr (f := fun k => grid_sized.j0 k z [D, H] false) (fun k => ?_) (Ev.step (f := fun k => grid_sized.l0 k z [D, H] 2 0) (fun k => ?_) ?_)
  · unfold grid_sized.f
    rw [if_neg h1, decide_eq_false h2]
  · simp only [grid_sized.j0, if_neg (show ¬ (false = true) by decide), List.length_cons, List.length_nil]
    rfl
  have e1 : wrap64 ((0 : Int) + 1) = 1 := by unfold wrap64; omega
  have e2 : wrap64 ((1 : Int) + 1) = 2 := by unfold wrap64; omega
  have s0 : ∀ k, grid_sized.l0 (k + 1) z [D, H] 2 0 = if ((prodN E : Nat) : Int) * z > 65536 then some 3 else grid_sized.l0 k z [D, H] 2 1 := by
    intro k
    simp only [grid_sized.l0]
    rw [if_pos (by omega), if_pos (by omega), if_pos (by simp), r0, elements_eq]
    simp only [Option.bind_some]
    rw [hD1, hwD, e1]
  have s1 : ∀ k, grid_sized.l0 (k + 1) z [D, H] 2 1 = if ((prodN F : Nat) : Int) * z > 65536 then some 3 else grid_sized.l0 k z [D, H] 2 2 := by
    intro k
    simp only [grid_sized.l0]
    rw [if_pos (by omega), if_pos (by omega), if_pos (by simp), r1, elements_eq]
    simp only [Option.bind_some]
    rw [hH1, hwH, e2]
  have s2 : ∀ k, grid_sized.l0 (k + 1) z [D, H] 2 2 = some 0 := by
    intro k
    simp only [grid_sized.l0]
    rw [if_neg (by omega)]
  by_cases c1 : 65536 < ((prodN E : Nat) : Int) * z
  · rw [if_pos (.inl c1)]
    exact Ev.step (fun k => (s0 k).trans (if_pos c1)) (Ev.now _)
  · by_cases c2 : 65536 < ((prodN F : Nat) : Int) * z
    · rw [if_pos (.inr c2)]
      exact Ev.step (fun k => (s0 k).trans (if_neg c1)) (Ev.step (fun k => (s1 k).trans (if_pos c2)) (Ev.now _))
    · rw [if_neg (by rintro (h | h) <;> contradiction)]
      exact Ev.step (fun k => (s0 k).trans (if_neg c1)) (Ev.step (fun k => (s1 k).trans (if_neg c2)) (Ev.step s2 (Ev.now _)))
def lastT (D H c : List Int) (z x l : Int) (whole : Bool) : Int := if x = (elemsT D).1 * z ∧ l = (if whole = true then (elemsT H).1 * z else z) ∧ rightT c D.length = true then 0 else 2
def errT (D H c : List Int) (z x l : Int) (whole : Bool) : Int := if fitT D H = 0 then (if sizedT z (elemsT D).1 (elemsT H).1 = 0 then lastT D H c z x l whole else sizedT z (elemsT D).1 (elemsT H).1) else fitT D H
structure Okay (D H c : List Int) (z : Int) (x l : Nat) (whole : Bool) (E F C : List Nat) (Z : Nat) : Prop where
  extD : Ext D E
  extH : Ext H F
  lenF : F.length = E.length
  one : ∀ d, d < F.length → 1 ≤ F.getD d 0
  lenC : C.length = E.length
  co : c = ints C
  size : z = (Z : Int)
  min : 1 ≤ Z ∧ Z ≤ 256
  bigE : prodN E * Z ≤ 65536
  bigF : prodN F * Z ≤ 65536
  lenX : x = prodN E * Z
  lenL : l = if whole = true then prodN F * Z else Z
theorem ints_of {l : List Int} (h : ∀ x ∈ l, 0 ≤ x) : ints (l.map Int.toNat) = l := by
  induction l with
  | nil => rfl
  | cons x l ih =>
    have h1 := ih (fun y hy => h y (List.mem_cons_of_mem _ hy))
    simp only [ints, List.map_cons] at h1 ⊢
    rw [h1]
    congr 1
    exact Int.toNat_of_nonneg (h x List.mem_cons_self)
theorem okay_of {D H c : List Int} {z : Int} {x l : Nat} {whole : Bool} (h : errT D H c z x l whole = 0) : Okay D H c z x l whole (D.map Int.toNat) (H.map Int.toNat) (c.map Int.toNat) z.toNat := by
  unfold errT at h
  by_cases h0 : fitT D H = 0
  case neg => rw [if_neg h0] at h; contradiction
  rw [if_pos h0] at h
  have hg := good_of_fit h0
  have h1 : (elemsT D).2 = 0 := by
    have h3 := h0
    unfold fitT at h3
    split at h3
    · assumption
    · contradiction
  have h2 : (elemsT H).2 = 0 := by
    have h3 := h0
    unfold fitT at h3
    rw [if_pos h1, if_pos hg.same] at h3
    split at h3
    · cases h3
    · exact h3
  have hD := ext_of h1
  have hH := ext_of h2
  have hD1 : (elemsT D).1 = ((prodN (D.map Int.toNat) : Nat) : Int) := by rw [hD.elems]
  have hH1 : (elemsT H).1 = ((prodN (H.map Int.toNat) : Nat) : Int) := by rw [hH.elems]
  by_cases hs : sizedT z (elemsT D).1 (elemsT H).1 = 0
  case neg => rw [if_neg hs] at h; contradiction
  rw [if_pos hs] at h
  unfold lastT at h
  by_cases hl : (x : Int) = (elemsT D).1 * z ∧ (l : Int) = (if whole = true then (elemsT H).1 * z else z) ∧ rightT c D.length = true
  case neg => rw [if_neg hl] at h; exact absurd h (by decide)
  clear h
  unfold sizedT at hs
  by_cases hz : z < 1 ∨ 256 < z
  case pos => rw [if_pos hz] at hs; exact absurd hs (by decide)
  rw [if_neg hz] at hs
  by_cases hb : 65536 < (elemsT D).1 * z ∨ 65536 < (elemsT H).1 * z
  case pos => rw [if_pos hb] at hs; exact absurd hs (by decide)
  clear hs
  have hzz : z = (z.toNat : Int) := by omega
  have hz1 : 1 ≤ z.toNat ∧ z.toNat ≤ 256 := by omega
  rw [hD1, hH1, hzz, mul_cast, mul_cast] at hb
  obtain ⟨l1, l2, l3⟩ := hl
  rw [hD1] at l1
  rw [hH1] at l2
  have hr := right_of l3
  refine ⟨hD, hH, by simp [hg.same], fun d hd => ?_, by simp [hr.1], (ints_of (fun y hy => ?_)).symm, hzz, hz1, by omega, by omega, ?_, ?_⟩
  · have hd' : d < H.length := by simpa using hd
    have := hg.shape d (by have := hg.same; omega)
    rw [rd_nat H d hd'] at this
    simp [List.getD_eq_getElem?_getD, hd']; omega
  · obtain ⟨i, hi, rfl⟩ := List.getElem_of_mem hy
    rw [← rd_nat c i hi]
    exact hr.2 i hi
  · rw [hzz, mul_cast] at l1
    exact Int.ofNat_inj.1 l1
  · cases whole with
    | true =>
      simp only [if_true] at l2 ⊢
      rw [hzz, mul_cast] at l2
      exact Int.ofNat_inj.1 l2
    | false =>
      simp only [if_neg (show ¬ (false = true) by decide)] at l2 ⊢
      omega
end Go.Proofs.Ytjbjofmcmjojlab.Pure
end
section
namespace Go.Proofs.Ytjbjofmcmjojlab.Pure
open Go.RowKit Go.Proofs.Ytjbjofmcmjojlab.Wk Go.Proofs.YtjbjofmcmjojlabW.PrintWords Go.Proofs.YtjbjofmcmjojlabW.PrintLast Go.Proofs.YtjbjofmcmjojlabW.PrintMore Go.Proofs.YtjbjofmcmjojlabQ
set_option linter.unusedVariables false
set_option linter.unusedSimpArgs false
def cutList (E F C : List Nat) : List (Nat × Nat) := (lexList (partN E F C)).map fun t => (placeN F t, placeN E (addN t (startN E F C)))
def pasteList (E F C : List Nat) : List (Nat × Nat) := (lexList (partN E F C)).map fun t => (placeN E (addN t (startN E F C)), placeN F t)
def cutR (D H c : List Int) (z : Int) (X L : List Int) : List Int := puts z.toNat X (repB (prodN (H.map Int.toNat)) L) (cutList (D.map Int.toNat) (H.map Int.toNat) (c.map Int.toNat))
def pasteR (D H c : List Int) (z : Int) (Y X : List Int) : List Int := puts z.toNat X Y (pasteList (D.map Int.toNat) (H.map Int.toNat) (c.map Int.toNat))
def cutT (X : List Int) (z : Int) (D H c L : List Int) : List Int × Int := if errT D H c z X.length L.length false = 0 then (cutR D H c z X L, 0) else ([], errT D H c z X.length L.length false)
def pasteT (Y : List Int) (z : Int) (D H c X : List Int) : List Int × Int := if errT D H c z Y.length X.length true = 0 then (pasteR D H c z Y X, 0) else ([], errT D H c z Y.length X.length true)
theorem start_le (E F C : List Nat) (hE : ∀ d, E.getD d 0 ≤ 1048576) (d : Nat) : (startN E F C).getD d 0 ≤ 1048576 := by
  rw [startN_getD]
  have h1 := cN_le (E.getD d 0) (F.getD d 0) (C.getD d 0)
  have h2 := hE d
  split <;> omega
theorem part_okay {E F C : List Nat} (hlF : F.length = E.length) (h4 : E.length ≤ 4) (hF : ∀ d, F.getD d 0 ≤ 1048576) : (ints (partN E F C)).length ≤ 4 ∧ ∀ x ∈ ints (partN E F C), 0 ≤ x ∧ x ≤ 1048576 := by
  have hb := box_of E F C hlF
  refine ⟨by rw [ints_length, hb.lenP]; exact h4, fun x hx => ?_⟩
  obtain ⟨n, hn, rfl⟩ := List.mem_map.1 hx
  obtain ⟨i, hi, rfl⟩ := List.getElem_of_mem hn
  have h1 := hb.shape i
  have h2 := hF i
  rw [List.getD_eq_getElem?_getD, List.getElem?_eq_getElem hi, Option.getD_some] at h1
  exact ⟨Int.natCast_nonneg _, Int.ofNat_le.2 (Nat.le_trans h1 h2)⟩
theorem okay_clip {D H c : List Int} {z : Int} {x l : Nat} {whole : Bool} {E F C : List Nat} {Z : Nat} (h : Okay D H c z x l whole E F C Z) (h0 : fitT D H = 0) (hH : H.length ≤ maxLen) (hc : c.length ≤ maxLen) : Ev (fun k => grid_Clip.f k D H c) (ints (startN E F C), ints (partN E F C), 0) := by
  have he := clip_ev D H c hH hc
  have e1 : c.length = D.length := by rw [h.co, h.extD.eq, ints_length, ints_length]; exact h.lenC
  rw [clipT_ok h0 e1 (fun i hi => by rw [h.co, rd_ints]; exact Int.natCast_nonneg _)] at he
  rw [h.co, h.extD.eq, h.extH.eq] at he ⊢
  rw [clipS_ints, clipP_ints] at he
  exact he
theorem okay_right {D H c : List Int} {z : Int} {x l : Nat} {whole : Bool} (h : errT D H c z x l whole = 0) : fitT D H = 0 ∧ sizedT z (elemsT D).1 (elemsT H).1 = 0 ∧ (x : Int) = (elemsT D).1 * z ∧ (l : Int) = (if whole = true then (elemsT H).1 * z else z) ∧ rightT c D.length = true := by
  unfold errT at h
  by_cases h0 : fitT D H = 0
  case neg => rw [if_neg h0] at h; contradiction
  rw [if_pos h0] at h
  by_cases hs : sizedT z (elemsT D).1 (elemsT H).1 = 0
  case neg => rw [if_neg hs] at h; contradiction
  rw [if_pos hs] at h
  unfold lastT at h
  by_cases hl : (x : Int) = (elemsT D).1 * z ∧ (l : Int) = (if whole = true then (elemsT H).1 * z else z) ∧ rightT c D.length = true
  case neg => rw [if_neg hl] at h; exact absurd h (by decide)
  exact ⟨h0, hs, hl⟩
theorem sized_wraps {D H : List Int} {E F : List Nat} (hD : Ext D E) (hH : Ext H F) {z : Int} (h : sizedT z (elemsT D).1 (elemsT H).1 = 0) : wrap64 ((elemsT D).1 * z) = (elemsT D).1 * z ∧ wrap64 ((elemsT H).1 * z) = (elemsT H).1 * z := by
  have hD1 : (elemsT D).1 = ((prodN E : Nat) : Int) := by rw [hD.elems]
  have hH1 : (elemsT H).1 = ((prodN F : Nat) : Int) := by rw [hH.elems]
  have hz : ¬ (z < 1 ∨ 256 < z) := by
    intro hz
    unfold sizedT at h
    rw [if_pos hz] at h
    exact absurd h (by decide)
  have p1 := hD.prod
  have p2 := hH.prod
  rw [hD1, hH1]
  exact ⟨wrap_size (by omega) (by omega) (by omega) (by omega), wrap_size (by omega) (by omega) (by omega) (by omega)⟩
theorem refused {D H c : List Int} {z x l : Int} {whole : Bool} (h : ¬ errT D H c z x l whole = 0) : (¬ fitT D H = 0 ∧ errT D H c z x l whole = fitT D H) ∨ (fitT D H = 0 ∧ ¬ sizedT z (elemsT D).1 (elemsT H).1 = 0 ∧ errT D H c z x l whole = sizedT z (elemsT D).1 (elemsT H).1) ∨
    (fitT D H = 0 ∧ sizedT z (elemsT D).1 (elemsT H).1 = 0 ∧ ¬ (x = (elemsT D).1 * z ∧ l = (if whole = true then (elemsT H).1 * z else z) ∧ rightT c D.length = true) ∧ errT D H c z x l whole = 2) := by
  unfold errT at h ⊢
  by_cases h0 : fitT D H = 0
  case neg => rw [if_neg h0]; exact .inl ⟨h0, rfl⟩
  rw [if_pos h0] at h ⊢
  by_cases hs : sizedT z (elemsT D).1 (elemsT H).1 = 0
  case neg => rw [if_neg hs]; exact .inr (.inl ⟨h0, hs, rfl⟩)
  rw [if_pos hs] at h ⊢
  unfold lastT at h ⊢
  by_cases hl : x = (elemsT D).1 * z ∧ l = (if whole = true then (elemsT H).1 * z else z) ∧ rightT c D.length = true
  case pos => rw [if_pos hl] at h; exact absurd rfl h
  rw [if_neg hl]
  exact .inr (.inr ⟨h0, hs, hl, rfl⟩)
theorem cut_ev (X : List Int) (z : Int) (D H c L : List Int) (hH : H.length ≤ maxLen) (hc : c.length ≤ maxLen) : Ev (fun k => grid_Cut.f k X z D H c L) (cutT X z D H c L) := by
  unfold grid_Cut.f cutT
  rw [fit_eq D H hH]
  simp only [Option.bind_some]
  by_cases he : errT D H c z X.length L.length false = 0
  · rw [if_pos he]
    have ho := okay_of he
    obtain ⟨h0, hs, l1, l2, l3⟩ := okay_right he
    have hw := sized_wraps ho.extD ho.extH hs
    have hsz := sized_ev ho.extD ho.extH z
    have hD1 : (elemsT D).1 = ((prodN (D.map Int.toNat) : Nat) : Int) := by rw [ho.extD.elems]
    have hH1 : (elemsT H).1 = ((prodN (H.map Int.toNat) : Nat) : Int) := by rw [ho.extH.elems]
    rw [← hD1, ← hH1, hs] at hsz
    simp only [if_pos h0]
    refine Ev.bind hsz ?_
    simp only [if_true]
    rw [elements_eq, elements_eq, right_eq c D.length hc]
    simp only [Option.bind_some]
    have hcond : (X.length : Int) = wrap64 ((elemsT D).1 * z) ∧ (L.length : Int) = z ∧ rightT c D.length = true := ⟨by rw [hw.1]; exact l1, by simpa using l2, l3⟩
    simp only [if_pos hcond]
    have hrep : bytes_Repeat.f L (elemsT H).1 = some (repB (prodN (H.map Int.toNat)) L) := by
      unfold bytes_Repeat.f
      rw [hH1]
      have hl := ho.lenL
      simp only [if_neg (show ¬ (false = true) by decide)] at hl
      have b1 := ho.bigF
      have b2 := ho.min
      have b3 := ho.extH.prod
      rw [Nat.mul_comm] at b1
      rw [if_pos ⟨by omega, by omega, by rw [hl, Int.toNat_natCast]; exact b1, by omega, by omega⟩, Int.toNat_natCast]
    rw [hrep]
    simp only [Option.bind_some]
    refine Ev.bind (okay_clip ho h0 hH hc) ?_
    simp only [if_pos (part_okay ho.lenF ho.extD.len ho.extH.dim)]
    have hlen : (repB (prodN (H.map Int.toNat)) L).length = prodN (H.map Int.toNat) * z.toNat := by
      have hl := ho.lenL
      simp only [if_neg (show ¬ (false = true) by decide)] at hl
      rw [repB_length, hl]
    have hfold := cut_fold ho.extD ho.extH (box_of _ _ _ ho.lenF) (start_le _ _ (c.map Int.toNat) ho.extD.dim) rfl z.toNat ho.min.1 X (repB (prodN (H.map Int.toNat)) L) ho.lenX hlen ho.bigE ho.bigF (repB (prodN (H.map Int.toNat)) L).length rfl
    rw [← ho.size] at hfold
    exact Ev.bind hfold (Ev.now _)
  · rw [if_neg he]
    rcases refused he with ⟨h0, e⟩ | ⟨h0, hs, e⟩ | ⟨h0, hs, hl, e⟩
    · rw [e]
      simp only [if_neg h0]
      exact Ev.now _
    · rw [e]
      obtain ⟨E, F, hD, hH', -, -⟩ := fit_exts h0
      have hsz := sized_ev hD hH' z
      have hD1 : (elemsT D).1 = ((prodN E : Nat) : Int) := by rw [hD.elems]
      have hH1 : (elemsT H).1 = ((prodN F : Nat) : Int) := by rw [hH'.elems]
      rw [← hD1, ← hH1] at hsz
      simp only [if_pos h0]
      refine Ev.bind hsz ?_
      simp only [if_neg hs]
      exact Ev.now _
    · rw [e]
      obtain ⟨E, F, hD, hH', -, -⟩ := fit_exts h0
      have hsz := sized_ev hD hH' z
      have hw := sized_wraps hD hH' hs
      have hD1 : (elemsT D).1 = ((prodN E : Nat) : Int) := by rw [hD.elems]
      have hH1 : (elemsT H).1 = ((prodN F : Nat) : Int) := by rw [hH'.elems]
      rw [← hD1, ← hH1, hs] at hsz
      simp only [if_pos h0]
      refine Ev.bind hsz ?_
      simp only [if_true]
      rw [elements_eq, elements_eq, right_eq c D.length hc]
      simp only [Option.bind_some]
      have hcond : ¬ ((X.length : Int) = wrap64 ((elemsT D).1 * z) ∧ (L.length : Int) = z ∧ rightT c D.length = true) := by
        rw [hw.1]
        simpa using hl
      simp only [if_neg hcond]
      exact Ev.now _
end Go.Proofs.Ytjbjofmcmjojlab.Pure
end
section
namespace Go.Proofs.Ytjbjofmcmjojlab.Pure
open Go.RowKit Go.Proofs.Ytjbjofmcmjojlab.Wk Go.Proofs.YtjbjofmcmjojlabW.PrintWords Go.Proofs.YtjbjofmcmjojlabW.PrintLast Go.Proofs.YtjbjofmcmjojlabW.PrintMore Go.Proofs.YtjbjofmcmjojlabQ
set_option linter.unusedVariables false
set_option linter.unusedSimpArgs false
theorem paste_ev (Y : List Int) (z : Int) (D H c X : List Int) (hH : H.length ≤ maxLen) (hc : c.length ≤ maxLen) : Ev (fun k => grid_Paste.f k Y z D H c X) (pasteT Y z D H c X) := by
  unfold grid_Paste.f pasteT
  rw [fit_eq D H hH]
  simp only [Option.bind_some]
  by_cases he : errT D H c z Y.length X.length true = 0
  · rw [if_pos he]
    have ho := okay_of he
    obtain ⟨h0, hs, l1, l2, l3⟩ := okay_right he
    have hw := sized_wraps ho.extD ho.extH hs
    have hsz := sized_ev ho.extD ho.extH z
    have hD1 : (elemsT D).1 = ((prodN (D.map Int.toNat) : Nat) : Int) := by rw [ho.extD.elems]
    have hH1 : (elemsT H).1 = ((prodN (H.map Int.toNat) : Nat) : Int) := by rw [ho.extH.elems]
    rw [← hD1, ← hH1, hs] at hsz
    simp only [if_pos h0]
    refine Ev.bind hsz ?_
    simp only [if_true]
    rw [elements_eq, elements_eq, right_eq c D.length hc]
    simp only [Option.bind_some]
    have hcond : (Y.length : Int) = wrap64 ((elemsT D).1 * z) ∧ (X.length : Int) = wrap64 ((elemsT H).1 * z) ∧ rightT c D.length = true := ⟨by rw [hw.1]; exact l1, by rw [hw.2]; simpa using l2, l3⟩
    simp only [if_pos hcond]
    have hcl : slices_Clone_byte_byte.f Y = some Y := by
      unfold slices_Clone_byte_byte.f
      have b1 := ho.bigE
      have b2 := ho.lenX
      rw [if_pos (by omega)]
    rw [hcl]
    simp only [Option.bind_some]
    refine Ev.bind (okay_clip ho h0 hH hc) ?_
    simp only [if_pos (part_okay ho.lenF ho.extD.len ho.extH.dim)]
    have hl := ho.lenL
    simp only [if_true] at hl
    have hfold := paste_fold ho.extD ho.extH (box_of _ _ _ ho.lenF) (start_le _ _ (c.map Int.toNat) ho.extD.dim) rfl z.toNat ho.min.1 X Y hl ho.lenX ho.bigF ho.bigE Y.length rfl
    rw [← ho.size] at hfold
    exact Ev.bind hfold (Ev.now _)
  · rw [if_neg he]
    rcases refused he with ⟨h0, e⟩ | ⟨h0, hs, e⟩ | ⟨h0, hs, hl, e⟩
    · rw [e]
      simp only [if_neg h0]
      exact Ev.now _
    · rw [e]
      obtain ⟨E, F, hD, hH', -, -⟩ := fit_exts h0
      have hsz := sized_ev hD hH' z
      have hD1 : (elemsT D).1 = ((prodN E : Nat) : Int) := by rw [hD.elems]
      have hH1 : (elemsT H).1 = ((prodN F : Nat) : Int) := by rw [hH'.elems]
      rw [← hD1, ← hH1] at hsz
      simp only [if_pos h0]
      refine Ev.bind hsz ?_
      simp only [if_neg hs]
      exact Ev.now _
    · rw [e]
      obtain ⟨E, F, hD, hH', -, -⟩ := fit_exts h0
      have hsz := sized_ev hD hH' z
      have hw := sized_wraps hD hH' hs
      have hD1 : (elemsT D).1 = ((prodN E : Nat) : Int) := by rw [hD.elems]
      have hH1 : (elemsT H).1 = ((prodN F : Nat) : Int) := by rw [hH'.elems]
      rw [← hD1, ← hH1, hs] at hsz
      simp only [if_pos h0]
      refine Ev.bind hsz ?_
      simp only [if_true]
      rw [elements_eq, elements_eq, right_eq c D.length hc]
      simp only [Option.bind_some]
      have hcond : ¬ ((Y.length : Int) = wrap64 ((elemsT D).1 * z) ∧ (X.length : Int) = wrap64 ((elemsT H).1 * z) ∧ rightT c D.length = true) := by
        rw [hw.1, hw.2]
        simpa using hl
      simp only [if_neg hcond]
      exact Ev.now _
end Go.Proofs.Ytjbjofmcmjojlab.Pure
end
section
namespace Go.Proofs.Ytjbjofmcmjojlab.Pure
open Go.RowKit Go.Proofs.Ytjbjofmcmjojlab.Wk Go.Proofs.YtjbjofmcmjojlabW.PrintWords Go.Proofs.YtjbjofmcmjojlabW.PrintLast
set_option linter.unusedVariables false
set_option linter.unusedSimpArgs false
def heavyT (X : List Int) (D H L : List Int) : Bool := decide ((X.length : Int) > 10000) || (decide ((L.length : Int) > 10000) || (decide ((elemsT D).1 > 3000) || decide ((elemsT H).1 > 3000)))
theorem wide_ev (D : List Int) (lD : D.length ≤ 9223372036854775807) : Ev (fun k => slabvaultlaw13_wide.f k D) (decide ((elemsT D).1 > 3000)) := by
  unfold slabvaultlaw13_wide.f
  exact Ev.bind (refElements_ev D lD) (Ev.now _)
theorem heavy_ev (X : List Int) (z : Int) (D H c L : List Int) (lD : D.length ≤ 9223372036854775807) (lH : H.length ≤ 9223372036854775807) : Ev (fun k => slabvaultlaw13_heavy.f k X z D H c L) (heavyT X D H L) := by
  unfold slabvaultlaw13_heavy.f heavyT
  by_cases h1 : (X.length : Int) > 10000
  · simp only [if_pos h1, decide_eq_true h1, Bool.true_or]
    exact Ev.now _
  simp only [if_neg h1, decide_eq_false h1, Bool.false_or]
  by_cases h2 : (L.length : Int) > 10000
  · simp only [if_pos h2, decide_eq_true h2, Bool.true_or]
    exact Ev.now _
  simp only [if_neg h2, decide_eq_false h2, Bool.false_or]
  refine Ev.bind (wide_ev D lD) ?_
  by_cases h3 : (elemsT D).1 > 3000
  · simp only [decide_eq_true h3, Bool.true_or, if_true]
    exact Ev.now _
  simp only [decide_eq_false h3, Bool.false_or, if_neg (show ¬ (false = true) by decide)]
  exact Ev.bind (wide_ev H lH) (Ev.now _)
theorem Ev.both {α β : Type} {f : Nat → Option α} {g : Nat → Option β} {a : α} {b : β} (hf : Ev f a) (hg : Ev g b) : ∃ K, ∀ k, K ≤ k → f k = some a ∧ g k = some b := by
  obtain ⟨K1, h1⟩ := hf
  obtain ⟨K2, h2⟩ := hg
  exact ⟨max K1 K2, fun k hk => ⟨h1 k (by omega), h2 k (by omega)⟩⟩
end Go.Proofs.Ytjbjofmcmjojlab.Pure
end
section
namespace Go.Proofs.Ytjbjofmcmjojlab.Pure
open Go.RowKit Go.Proofs.Ytjbjofmcmjojlab.Wk Go.Proofs.YtjbjofmcmjojlabW.PrintWords Go.Proofs.YtjbjofmcmjojlabW.PrintLast Go.Proofs.YtjbjofmcmjojlabW.PrintMore Go.Proofs.YtjbjofmcmjojlabQ
set_option linter.unusedVariables false
set_option linter.unusedSimpArgs false
theorem one_get {X O : List Int} {Z M N : Nat} {q : Nat × Nat} (hX : X.length = N * Z) (hO : O.length = M * Z) (h1 : q.1 < M) (h2 : q.2 < N) (p b : Nat) (hb : b < Z) : (one Z X O q).getD (p * Z + b) 0 = if q.1 = p then X.getD (q.2 * Z + b) 0 else O.getD (p * Z + b) 0 := by
  have bl := block_length (Z := Z) (m := 1) hX (show q.2 + 1 ≤ N from h2)
  rw [Nat.one_mul] at bl
  have a1 : (q.1 + 1) * Z ≤ M * Z := Nat.mul_le_mul_right _ h1
  rw [Nat.add_mul, Nat.one_mul] at a1
  unfold one
  rw [laid_get _ _ _ _ (by rw [bl]; omega), bl]
  by_cases c : q.1 = p
  · subst c
    rw [if_pos ⟨by omega, by omega⟩, if_pos rfl, block_get (by omega)]
    congr 1
    omega
  · rw [if_neg c, if_neg]
    rintro ⟨c1, c2⟩
    rcases Nat.lt_or_gt_of_ne c with h | h
    · have := Nat.mul_le_mul_right Z (show q.1 + 1 ≤ p from h)
      rw [Nat.add_mul, Nat.one_mul] at this
      omega
    · have := Nat.mul_le_mul_right Z (show p + 1 ≤ q.1 from h)
      rw [Nat.add_mul, Nat.one_mul] at this
      omega
theorem puts_get {X : List Int} {Z M N : Nat} (hX : X.length = N * Z) (p b : Nat) (hb : b < Z) : ∀ (l : List (Nat × Nat)) (O : List Int), O.length = M * Z → (∀ q ∈ l, q.1 < M ∧ q.2 < N) →
    (∃ q ∈ l, q.1 = p ∧ (puts Z X O l).getD (p * Z + b) 0 = X.getD (q.2 * Z + b) 0) ∨ ((∀ q ∈ l, q.1 ≠ p) ∧ (puts Z X O l).getD (p * Z + b) 0 = O.getD (p * Z + b) 0)
  | [], O, _, _ => .inr ⟨by simp, rfl⟩
  | q :: l, O, hO, h => by
    have hq := h q List.mem_cons_self
    have hone := one_get hX hO hq.1 hq.2 p b hb
    have e : puts Z X O (q :: l) = puts Z X (one Z X O q) l := rfl
    rcases puts_get hX p b hb l _ (one_length hX hO hq.1 hq.2) (fun q' hq' => h q' (List.mem_cons_of_mem _ hq')) with ⟨q', h1, h2, h3⟩ | ⟨h1, h2⟩
    · exact .inl ⟨q', List.mem_cons_of_mem _ h1, h2, by rw [e]; exact h3⟩
    · by_cases c : q.1 = p
      · exact .inl ⟨q, List.mem_cons_self, c, by rw [e, h2, hone, if_pos c]⟩
      · refine .inr ⟨fun q' hq' => ?_, by rw [e, h2, hone, if_neg c]⟩
        rcases List.mem_cons.1 hq' with rfl | hq'
        · exact c
        · exact h1 q' hq'
theorem place_inj : ∀ (D s t : List Nat), s ∈ lexList D → t ∈ lexList D → placeN D s = placeN D t → s = t
  | [], s, t, hs, ht, _ => by simp [lexList] at hs ht; rw [hs, ht]
  | d :: D, s, t, hs, ht, h => by
    simp only [lexList, List.mem_flatMap, List.mem_range, List.mem_map] at hs ht
    obtain ⟨i, hi, s', hs', rfl⟩ := hs
    obtain ⟨j, hj, t', ht', rfl⟩ := ht
    simp only [placeN] at h
    have h1 := valid_place D s' hs'
    have h2 := valid_place D t' ht'
    have hij : i = j := by
      rcases Nat.lt_trichotomy i j with c | c | c
      · have := Nat.mul_le_mul_right (prodN D) (show i + 1 ≤ j from c)
        rw [Nat.add_mul, Nat.one_mul] at this
        omega
      · exact c
      · have := Nat.mul_le_mul_right (prodN D) (show j + 1 ≤ i from c)
        rw [Nat.add_mul, Nat.one_mul] at this
        omega
    subst hij
    rw [place_inj D s' t' hs' ht' (by omega)]
theorem addN_inj : ∀ (S s t : List Nat), s.length = S.length → t.length = S.length → addN s S = addN t S → s = t
  | [], s, t, hs, ht, _ => by rw [List.eq_nil_of_length_eq_zero hs, List.eq_nil_of_length_eq_zero ht]
  | x :: S, [], _, hs, _, _ => by simp at hs
  | x :: S, _ :: _, [], _, ht, _ => by simp at ht
  | x :: S, a :: s, b :: t, hs, ht, h => by
    simp only [addN, List.zipWith_cons_cons, List.cons.injEq] at h
    have h1 := addN_inj S s t (by simpa using hs) (by simpa using ht) h.2
    rw [h1, show a = b by omega]
section
variable {E F C : List Nat} {Z : Nat} (hlF : F.length = E.length) (hZ : 1 ≤ Z)
include hlF
theorem lists_in : (∀ q ∈ cutList E F C, q.1 < prodN F ∧ q.2 < prodN E) ∧ (∀ q ∈ pasteList E F C, q.1 < prodN E ∧ q.2 < prodN F) := by
  have hbox := box_of E F C hlF
  refine ⟨fun q hq => ?_, fun q hq => ?_⟩ <;> (obtain ⟨t, ht, rfl⟩ := List.mem_map.1 hq; have hm := hbox.mem ht)
  · exact ⟨valid_place F t hm.1, valid_place E _ hm.2.1⟩
  · exact ⟨valid_place E _ hm.2.1, valid_place F t hm.1⟩
theorem cut_at {X O : List Int} (hX : X.length = prodN E * Z) (hO : O.length = prodN F * Z) {t : List Nat} (ht : t ∈ lexList (partN E F C)) (b : Nat) (hb : b < Z) : (puts Z X O (cutList E F C)).getD (placeN F t * Z + b) 0 = X.getD (placeN E (addN t (startN E F C)) * Z + b) 0 := by
  have hbox := box_of E F C hlF
  have hm := hbox.mem ht
  rcases puts_get hX (placeN F t) b hb (cutList E F C) O hO (lists_in hlF).1 with ⟨q, hq, h1, h2⟩ | ⟨h1, _⟩
  · obtain ⟨s, hs, rfl⟩ := List.mem_map.1 hq
    have hst := place_inj F s t (hbox.mem hs).1 hm.1 h1
    rw [h2, hst]
  · exact absurd rfl (h1 _ (List.mem_map.2 ⟨t, ht, rfl⟩))
theorem paste_at {X O : List Int} (hX : X.length = prodN F * Z) (hO : O.length = prodN E * Z) {t : List Nat} (ht : t ∈ lexList (partN E F C)) (b : Nat) (hb : b < Z) : (puts Z X O (pasteList E F C)).getD (placeN E (addN t (startN E F C)) * Z + b) 0 = X.getD (placeN F t * Z + b) 0 := by
  have hbox := box_of E F C hlF
  have hm := hbox.mem ht
  rcases puts_get hX (placeN E (addN t (startN E F C))) b hb (pasteList E F C) O hO (lists_in hlF).2 with ⟨q, hq, h1, h2⟩ | ⟨h1, _⟩
  · obtain ⟨s, hs, rfl⟩ := List.mem_map.1 hq
    have hms := hbox.mem hs
    have hst := addN_inj _ s t (by rw [hms.2.2, hbox.lenS]) (by rw [hm.2.2, hbox.lenS]) (place_inj E _ _ hms.2.1 hm.2.1 h1)
    rw [h2, hst]
  · exact absurd rfl (h1 _ (List.mem_map.2 ⟨t, ht, rfl⟩))
theorem paste_off {X O : List Int} (hX : X.length = prodN F * Z) (hO : O.length = prodN E * Z) (p b : Nat) (hb : b < Z) (h : ∀ t ∈ lexList (partN E F C), placeN E (addN t (startN E F C)) ≠ p) : (puts Z X O (pasteList E F C)).getD (p * Z + b) 0 = O.getD (p * Z + b) 0 := by
  rcases puts_get hX p b hb (pasteList E F C) O hO (lists_in hlF).2 with ⟨q, hq, h1, _⟩ | ⟨_, h2⟩
  · obtain ⟨t, ht, rfl⟩ := List.mem_map.1 hq
    exact absurd h1 (h t ht)
  · exact h2
include hZ
theorem paste_same {X X' O O' : List Int} (hX : X.length = prodN F * Z) (hX' : X'.length = prodN F * Z) (hO : O.length = prodN E * Z) (hO' : O'.length = prodN E * Z)
    (hin : ∀ t ∈ lexList (partN E F C), ∀ b, b < Z → X.getD (placeN F t * Z + b) 0 = X'.getD (placeN F t * Z + b) 0)
    (hoff : ∀ p b, b < Z → (∀ t ∈ lexList (partN E F C), placeN E (addN t (startN E F C)) ≠ p) → O.getD (p * Z + b) 0 = O'.getD (p * Z + b) 0) :
    puts Z X O (pasteList E F C) = puts Z X' O' (pasteList E F C) := by
  have l1 := puts_length hX (pasteList E F C) O hO (lists_in hlF).2
  have l2 := puts_length hX' (pasteList E F C) O' hO' (lists_in hlF).2
  refine ext_get (by rw [l1, l2]) (fun j _ => ?_)
  have hj : j = j / Z * Z + j % Z := by rw [Nat.mul_comm]; exact (Nat.div_add_mod j Z).symm
  have hb : j % Z < Z := Nat.mod_lt _ (by omega)
  rw [hj]
  generalize j / Z = p
  generalize j % Z = b at hb
  by_cases c : ∃ t ∈ lexList (partN E F C), placeN E (addN t (startN E F C)) = p
  · obtain ⟨t, ht, rfl⟩ := c
    rw [paste_at hlF hX hO ht b hb, paste_at hlF hX' hO' ht b hb]
    exact hin t ht b hb
  · have hno : ∀ q ∈ pasteList E F C, q.1 ≠ p := by
      intro q hq hqp
      obtain ⟨t, ht, rfl⟩ := List.mem_map.1 hq
      exact c ⟨t, ht, hqp⟩
    rcases puts_get hX p b hb (pasteList E F C) O hO (lists_in hlF).2 with ⟨q, hq, h1, _⟩ | ⟨_, h2⟩
    · exact absurd h1 (hno q hq)
    · rcases puts_get hX' p b hb (pasteList E F C) O' hO' (lists_in hlF).2 with ⟨q, hq, h1, _⟩ | ⟨_, h3⟩
      · exact absurd h1 (hno q hq)
      · rw [h2, h3]
        exact hoff p b hb (fun t ht h => c ⟨t, ht, h⟩)
theorem paste_self {X O : List Int} (hX : X.length = prodN F * Z) (hO : O.length = prodN E * Z) (hin : ∀ t ∈ lexList (partN E F C), ∀ b, b < Z → X.getD (placeN F t * Z + b) 0 = O.getD (placeN E (addN t (startN E F C)) * Z + b) 0) :
    puts Z X O (pasteList E F C) = O := by
  have l1 := puts_length hX (pasteList E F C) O hO (lists_in hlF).2
  refine ext_get (by rw [l1, hO]) (fun j _ => ?_)
  have hj : j = j / Z * Z + j % Z := by rw [Nat.mul_comm]; exact (Nat.div_add_mod j Z).symm
  have hb : j % Z < Z := Nat.mod_lt _ (by omega)
  rw [hj]
  generalize j / Z = p
  generalize j % Z = b at hb
  rcases puts_get hX p b hb (pasteList E F C) O hO (lists_in hlF).2 with ⟨q, hq, h1, h2⟩ | ⟨_, h2⟩
  · obtain ⟨t, ht, rfl⟩ := List.mem_map.1 hq
    simp only at h1 h2
    subst h1
    rw [h2]
    exact hin t ht b hb
  · exact h2
end
theorem err_whole {D H c : List Int} {z : Int} {x l l' : Nat} (h : errT D H c z x l false = 0) (hl' : l' = prodN (H.map Int.toNat) * z.toNat) : errT D H c z x l' true = 0 := by
  have ho := okay_of h
  obtain ⟨h0, hs, l1, l2, l3⟩ := okay_right h
  have hH1 : (elemsT H).1 = ((prodN (H.map Int.toNat) : Nat) : Int) := by rw [ho.extH.elems]
  unfold errT
  rw [if_pos h0, if_pos hs]
  unfold lastT
  rw [if_pos]
  refine ⟨l1, ?_, l3⟩
  rw [if_pos rfl, hH1, hl']
  have e := ho.size
  generalize z.toNat = Z at e
  rw [e, mul_cast]
theorem GridBack (X : List Int) (z : Int) (D H c L M : List Int) (lD : D.length ≤ maxLen) (lH : H.length ≤ maxLen) (lc : c.length ≤ maxLen) : ∃ k, BackP k X z D H c L M := by
  have hm : maxLen = 9223372036854775807 := rfl
  obtain ⟨K0, h0⟩ := heavy_ev X z D H c L (by omega) (by omega)
  have hcut := cut_ev X z D H c L lH lc
  by_cases he : errT D H c z X.length L.length false = 0
  case neg =>
    have e1 : cutT X z D H c L = ([], errT D H c z X.length L.length false) := by unfold cutT; rw [if_neg he]
    rw [e1] at hcut
    obtain ⟨K1, h1⟩ := hcut
    exact ⟨max K0 K1, _, h0 _ (by omega), fun _ => .inl ⟨_, he, h1 _ (by omega)⟩⟩
  have ho := okay_of he
  have hL : L.length = z.toNat := by simpa using ho.lenL
  have hrep : (repB (prodN (H.map Int.toNat)) L).length = prodN (H.map Int.toNat) * z.toNat := by rw [repB_length, hL]
  have hin := lists_in (C := c.map Int.toNat) ho.lenF
  have e1 : cutT X z D H c L = (cutR D H c z X L, 0) := by unfold cutT; rw [if_pos he]
  have lx : (cutR D H c z X L).length = prodN (H.map Int.toNat) * z.toNat := puts_length (N := prodN (D.map Int.toNat)) ho.lenX _ _ hrep hin.1
  have p1 : ∀ (Y x : List Int), Y.length = X.length → x.length = prodN (H.map Int.toNat) * z.toNat → pasteT Y z D H c x = (pasteR D H c z Y x, 0) := by
    intro Y x hY hx
    unfold pasteT
    rw [hY, if_pos (err_whole he hx)]
  have lp : ∀ (Y x : List Int), Y.length = X.length → x.length = prodN (H.map Int.toNat) * z.toNat → (pasteR D H c z Y x).length = X.length := by
    intro Y x hY hx
    rw [ho.lenX]
    exact puts_length (M := prodN (D.map Int.toNat)) hx _ _ (hY.trans ho.lenX) hin.2
  generalize hx : cutR D H c z X L = x at *
  have hone : 1 ≤ x.length := by
    rw [lx]
    have a1 := prodN_ge (H.map Int.toNat) ho.one
    have a2 : 1 * 1 ≤ prodN (H.map Int.toNat) * z.toNat := Nat.mul_le_mul a1 ho.min.1
    omega
  have lo : (laid (List.replicate x.length (0 : Int)) 0 (M.take x.length)).length = prodN (H.map Int.toNat) * z.toNat := by
    rw [laid_length _ _ _ (by simp; omega), List.length_replicate, lx]
  generalize hown : laid (List.replicate x.length (0 : Int)) 0 (M.take x.length) = own at *
  have r1 : pasteR D H c z X x = X := paste_self ho.lenF ho.min.1 lx ho.lenX (fun t ht b hb => by rw [← hx]; exact cut_at ho.lenF ho.lenX hrep ht b hb)
  have lz := lp X own rfl lo
  generalize hzz : pasteR D H c z X own = zz at *
  have lz2 := lz.trans ho.lenX
  have e2 : cutT zz z D H c L = (cutR D H c z zz L, 0) := by unfold cutT; rw [lz, if_pos he]
  have lw : (cutR D H c z zz L).length = prodN (H.map Int.toNat) * z.toNat := puts_length (N := prodN (D.map Int.toNat)) lz2 _ _ hrep hin.1
  generalize hww : cutR D H c z zz L = ww at *
  have hoffz : ∀ p b, b < z.toNat → (∀ t ∈ lexList (partN (D.map Int.toNat) (H.map Int.toNat) (c.map Int.toNat)), placeN (D.map Int.toNat) (addN t (startN (D.map Int.toNat) (H.map Int.toNat) (c.map Int.toNat))) ≠ p) → zz.getD (p * z.toNat + b) 0 = X.getD (p * z.toNat + b) 0 := by
    intro p b hb h
    rw [← hzz]
    exact paste_off ho.lenF lo ho.lenX p b hb h
  have r2 : pasteR D H c z zz x = X := (paste_same ho.lenF ho.min.1 lx lx lz2 ho.lenX (fun t ht b hb => rfl) hoffz).trans r1
  have s1 : pasteR D H c z zz ww = zz := paste_self ho.lenF ho.min.1 lw lz2 (fun t ht b hb => by rw [← hww]; exact cut_at ho.lenF lz2 hrep ht b hb)
  have r3 : pasteR D H c z X ww = zz := (paste_same ho.lenF ho.min.1 lw lw ho.lenX lz2 (fun t ht b hb => rfl) (fun p b hb h => (hoffz p b hb h).symm)).trans s1
  rw [e1] at hcut
  have q1 := paste_ev X z D H c x lH lc
  rw [p1 X x rfl lx, r1] at q1
  have q2 := paste_ev X z D H c own lH lc
  rw [p1 X own rfl lo, hzz] at q2
  have q3 := cut_ev zz z D H c L lH lc
  rw [e2] at q3
  have q4 := paste_ev zz z D H c x lH lc
  rw [p1 zz x lz lx, r2] at q4
  have q5 := paste_ev X z D H c ww lH lc
  rw [p1 X ww rfl lw, r3] at q5
  obtain ⟨K1, g1⟩ := hcut
  obtain ⟨K2, g2⟩ := q1
  obtain ⟨K3, g3⟩ := q2
  obtain ⟨K4, g4⟩ := q3
  obtain ⟨K5, g5⟩ := q4
  obtain ⟨K6, g6⟩ := q5
  refine ⟨max K0 (max K1 (max K2 (max K3 (max K4 (max K5 K6))))), _, h0 _ (by omega), fun _ => .inr ⟨x, zz, ww, hone, by rw [lx]; exact ho.bigF, g1 _ (by omega), g2 _ (by omega), ?_, g4 _ (by omega), by rw [lw, lx], g5 _ (by omega), g6 _ (by omega)⟩⟩
  rw [hown]
  exact g3 _ (by omega)
end Go.Proofs.Ytjbjofmcmjojlab.Pure
end
