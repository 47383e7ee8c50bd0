-- Texts that the row GridCuts leans on, joined by wip/tools/mkclaim.py: PlainCut3, PlainCut4, PlainCut5, PureGridCuts
import Derived.Test.YtjbjofmcmjojlabCGridCuts3
section
namespace Go.Proofs.Ytjbjofmcmjojlab.Pure
open Go.RowKit Go.Proofs.Ytjbjofmcmjojlab.Wk Go.Proofs.YtjbjofmcmjojlabW.PrintWords Go.Proofs.YtjbjofmcmjojlabW.PrintLast Go.Proofs.YtjbjofmcmjojlabW.PrintMore Go.Proofs.YtjbjofmcmjojlabQ
theorem where_one {d h c t : Nat} (ht : t < h) (hd : d ≤ 1048576) (hh : h ≤ 1048576) (hc : c ≤ d) : wrap64 (wrap64 ((c : Int) * (h : Int)) + (t : Int)) = ((c * h + t : Nat) : Int) ∧ (t < min h (d - cN d h c) ↔ c * h + t < d) ∧ (c * h + t < d → cN d h c = c * h) := by
  have hb : c * h ≤ 1048576 * 1048576 := mulLt (by omega) hh
  rw [mul_cast]
  unfold cN
  generalize c * h = q at *
  refine ⟨by unfold wrap64; omega, ?_, fun hlt => by rw [if_pos (by omega)]⟩
  split <;> omega
theorem where_off {d h c t : Nat} (hh : 1 ≤ h) (hc : d < c) : ¬ t < min h (d - cN d h c) := by
  have : c * 1 ≤ c * h := Nat.mul_le_mul_left _ hh
  unfold cN
  rw [if_neg (by omega)]
  omega
theorem where_l0 (E F C t : List Nat) (hE : ∀ d, E.getD d 0 ≤ 1048576) (hF : ∀ d, F.getD d 0 ≤ 1048576) (hF1 : ∀ d, d < F.length → 1 ≤ F.getD d 0) (h4 : E.length ≤ 4) (hlF : F.length = E.length) (hlC : C.length = E.length) (ht : t ∈ lexList F) : ∀ (d i : Nat), E.length - i = d → i ≤ E.length →
    Ev (fun k => slabvaultref13_where.l0 k (ints E) (ints F) (ints C) (ints t) (ints ((addN t (startN E F C)).take i)) i) (if insideB ((partN E F C).drop i) (t.drop i) = true then (ints (addN t (startN E F C)), true) else ([], false)) := by
  have hm := lex_mem F t ht
  have lS : (startN E F C).length = E.length := by simp [startN]
  have lP : (partN E F C).length = E.length := by simp [partN]
  have lA := addN_length t (startN E F C) (by omega)
  have l1 := ints_length E
  have l2 := ints_length F
  have l3 := ints_length C
  have l4 := ints_length t
  intro d
  induction d with
  | zero =>
    intro i hi hil
    rw [List.drop_eq_nil_of_le (by omega), List.drop_eq_nil_of_le (by omega), List.take_of_length_le (by omega)]
    refine Ev.step (f := fun _ => some (ints (addN t (startN E F C)), true)) (fun k => ?_) (Ev.now _)
    simp only [slabvaultref13_where.l0]
    rw [if_neg (by omega)]
  | succ d ih =>
    intro i hi hil
    have hlt : i < E.length := by omega
    rw [getD_drop (partN E F C) i (by omega), getD_drop t i (by omega), partN_getD, if_pos hlt]
    have h1 := hE i
    have h2 := hF i
    have h3 := hF1 i (by omega)
    have h5 := hm.2 i (by omega)
    have l5 : (ints ((addN t (startN E F C)).take i)).length = i := by rw [ints_length, List.length_take]; omega
    have k1 : (i : Int) < ((ints E).length : Int) := by omega
    have k2 : 0 ≤ (i : Int) := by omega
    have k3 : (i : Int) < ((ints C).length : Int) := by omega
    have k4 : (i : Int) < ((ints F).length : Int) := by omega
    have k5 : (i : Int) < ((ints t).length : Int) := by omega
    have k6 : (ints ((addN t (startN E F C)).take i)).length < 17592186044416 := by omega
    have k7 := Aside0.mk (show wrap64 ((i : Int) + 1) = ((i + 1 : Nat) : Int) from wrap_up hlt (by omega))
    have k8 : i < (addN t (startN E F C)).length := by omega
    have e2 := addN_getD t (startN E F C) (by omega) i (by omega)
    rw [startN_getD, if_pos hlt] at e2
    have hih := ih (i + 1) (by omega) (by omega)
    by_cases c1 : E.getD i 0 < C.getD i 0
    · have ho := where_off (t := t.getD i 0) h3 c1
      have hI : insideB (min (F.getD i 0) (E.getD i 0 - cN (E.getD i 0) (F.getD i 0) (C.getD i 0)) :: (partN E F C).drop (i + 1)) (t.getD i 0 :: t.drop (i + 1)) = false := by rw [insideB, decide_eq_false ho, Bool.false_and]
      rw [hI]
      have c1' : ((C.getD i 0 : Nat) : Int) > ((E.getD i 0 : Nat) : Int) := by
        clear ho hI e2
        omega
      refine Ev.step (f := fun _ => some ([], false)) (fun k => ?_) (Ev.now _)
      simp only [slabvaultref13_where.l0]
      rw [if_pos k1, if_pos k2, if_pos k3, rd_ints, rd_ints, if_pos c1']
    · have c1' : ¬ ((C.getD i 0 : Nat) : Int) > ((E.getD i 0 : Nat) : Int) := by
        clear e2
        omega
      have hw := where_one h5 h1 h2 (Nat.le_of_not_lt c1)
      by_cases c2 : C.getD i 0 * F.getD i 0 + t.getD i 0 < E.getD i 0
      · have hI : insideB (min (F.getD i 0) (E.getD i 0 - cN (E.getD i 0) (F.getD i 0) (C.getD i 0)) :: (partN E F C).drop (i + 1)) (t.getD i 0 :: t.drop (i + 1)) = insideB ((partN E F C).drop (i + 1)) (t.drop (i + 1)) := by rw [insideB, decide_eq_true (hw.2.1.2 c2), Bool.true_and]
        rw [hI]
        have c2' : ¬ ((C.getD i 0 * F.getD i 0 + t.getD i 0 : Nat) : Int) ≥ ((E.getD i 0 : Nat) : Int) := fun h => Nat.not_le.2 c2 (Int.ofNat_le.1 h)
        have e : ints ((addN t (startN E F C)).take (i + 1)) = ints ((addN t (startN E F C)).take i) ++ [((C.getD i 0 * F.getD i 0 + t.getD i 0 : Nat) : Int)] := by
          rw [List.take_succ_eq_append_getElem k8]
          rw [hw.2.2 c2, List.getD_eq_getElem?_getD, List.getElem?_eq_getElem k8, Option.getD_some] at e2
          rw [e2, Nat.add_comm]
          simp [ints]
        refine Ev.step (f := fun k => slabvaultref13_where.l0 k (ints E) (ints F) (ints C) (ints t) (ints ((addN t (startN E F C)).take (i + 1))) ((i + 1 : Nat) : Int)) (fun k => ?_) hih
        simp only [slabvaultref13_where.l0]
        rw [if_pos k1, if_pos k2, if_pos k3, rd_ints, rd_ints, if_neg c1', if_pos k4, if_pos k5, rd_ints, rd_ints, hw.1, if_neg c2', if_pos k6, k7.out, e]
      · have hI : insideB (min (F.getD i 0) (E.getD i 0 - cN (E.getD i 0) (F.getD i 0) (C.getD i 0)) :: (partN E F C).drop (i + 1)) (t.getD i 0 :: t.drop (i + 1)) = false := by rw [insideB, decide_eq_false (fun h => c2 (hw.2.1.1 h)), Bool.false_and]
        rw [hI]
        have c2' : ((C.getD i 0 * F.getD i 0 + t.getD i 0 : Nat) : Int) ≥ ((E.getD i 0 : Nat) : Int) := Int.ofNat_le.2 (Nat.le_of_not_lt c2)
        refine Ev.step (f := fun _ => some ([], false)) (fun k => ?_) (Ev.now _)
        simp only [slabvaultref13_where.l0]
        rw [if_pos k1, if_pos k2, if_pos k3, rd_ints, rd_ints, if_neg c1', if_pos k4, if_pos k5, rd_ints, rd_ints, hw.1, if_pos c2']
theorem where_ev (E F C t : List Nat) (hE : ∀ d, E.getD d 0 ≤ 1048576) (hF : ∀ d, F.getD d 0 ≤ 1048576) (hF1 : ∀ d, d < F.length → 1 ≤ F.getD d 0) (h4 : E.length ≤ 4) (hlF : F.length = E.length) (hlC : C.length = E.length) (ht : t ∈ lexList F) :
    Ev (fun k => slabvaultref13_where.f k (ints E) (ints F) (ints C) (ints t)) (if insideB (partN E F C) t = true then (ints (addN t (startN E F C)), true) else ([], false)) := by
  unfold slabvaultref13_where.f
  simpa [ints] using where_l0 E F C t hE hF hF1 h4 hlF hlC ht E.length 0 (by omega) (by omega)
theorem piece {p Z N x : Nat} (hZ : 1 ≤ Z) (hp : p < N) (hx : x = N * Z) (hN : N * Z ≤ 65536) (X : List Int) (hX : X.length = x) :
    0 ≤ wrap64 ((p : Int) * (Z : Int)) ∧ wrap64 ((p : Int) * (Z : Int)) ≤ wrap64 (wrap64 ((p : Int) * (Z : Int)) + (Z : Int)) ∧ wrap64 (wrap64 ((p : Int) * (Z : Int)) + (Z : Int)) ≤ (X.length : Int) ∧ (X.take (wrap64 (wrap64 ((p : Int) * (Z : Int)) + (Z : Int))).toNat).drop (wrap64 ((p : Int) * (Z : Int))).toNat = (X.drop (p * Z)).take Z := by
  have a1 : (p + 1) * Z ≤ N * Z := Nat.mul_le_mul_right _ hp
  rw [Nat.add_mul, Nat.one_mul] at a1
  rw [mul_cast]
  generalize p * Z = q at *
  have e1 : wrap64 ((q : Nat) : Int) = (q : Int) := by unfold wrap64; omega
  have e2 : wrap64 ((q : Int) + (Z : Int)) = ((q + Z : Nat) : Int) := by unfold wrap64; omega
  rw [e1, e2]
  refine ⟨by omega, by omega, by omega, ?_⟩
  rw [Int.toNat_natCast, Int.toNat_natCast, List.drop_take, show q + Z - q = Z by omega]
theorem cut_ref_round {D H : List Int} {E F C : List Nat} (hD : Ext D E) (hH : Ext H F) (hlF : F.length = E.length) (hF1 : ∀ d, d < F.length → 1 ≤ F.getD d 0) (hlC : C.length = E.length) (Z : Nat) (hZ : 1 ≤ Z ∧ Z ≤ 256) (X L : List Int) (hX : X.length = prodN E * Z) (hL : L.length = Z) (hN : prodN E * Z ≤ 65536)
    (l : List (List Nat)) (i : Nat) (hlt : i < l.length) (hl : l.length ≤ 1048576) (t : List Nat) (ht : l[i] = t) (htm : t ∈ lexList F) (acc : List Int) (hacc : acc.length ≤ 1048576 * 256) {r : List Int × Int}
    (hk : Ev (fun k => slabvaultref13_Cut.l0 k X (Z : Int) D H (ints C) L (acc ++ (if insideB (partN E F C) t = true then (X.drop (placeN E (addN t (startN E F C)) * Z)).take Z else L)) (l.map ints) ((i + 1 : Nat) : Int)) r) :
    (if insideB (partN E F C) t = true then (X.drop (placeN E (addN t (startN E F C)) * Z)).take Z else L).length = Z ∧ Ev (fun k => slabvaultref13_Cut.l0 k X (Z : Int) D H (ints C) L acc (l.map ints) i) r := by
  have lm : (l.map ints).length = l.length := List.length_map ..
  have hbox := box_of E F C hlF
  have hw := where_ev E F C t hD.dim hH.dim hF1 hD.len hlF hlC htm
  have k1 : (i : Int) < ((l.map ints).length : Int) := by rw [lm]; omega
  have k2 : 0 ≤ (i : Int) := by omega
  have hwrap : wrap64 ((i : Int) + 1) = ((i + 1 : Nat) : Int) := by
    clear hw hk hX hN lm
    unfold wrap64; omega
  have hopen : ∀ k, slabvaultref13_Cut.l0 (k + 1) X (Z : Int) D H (ints C) L acc (l.map ints) i = (slabvaultref13_where.f k D H (ints C) (ints t)).bind fun b => (if b.2 = true then ((slabvaultref12_Place.f k D b.1).bind fun p => (if 0 ≤ (wrap64 (p * (Z : Int))) then (if (wrap64 (p * (Z : Int))) ≤ (wrap64 ((wrap64 (p * (Z : Int))) + (Z : Int))) then (if (wrap64 ((wrap64 (p * (Z : Int))) + (Z : Int))) ≤ (X.length : Int) then (if acc.length + ((X.take ((wrap64 ((wrap64 (p * (Z : Int))) + (Z : Int))) : Int).toNat).drop ((wrap64 (p * (Z : Int))) : Int).toNat).length < 140737488355328 then (slabvaultref13_Cut.l0 k X (Z : Int) D H (ints C) L (acc ++ ((X.take ((wrap64 ((wrap64 (p * (Z : Int))) + (Z : Int))) : Int).toNat).drop ((wrap64 (p * (Z : Int))) : Int).toNat)) (l.map ints) ((i + 1 : Nat) : Int)) else (none)) else (none)) else (none)) else (none))) else (if acc.length + L.length < 140737488355328 then (slabvaultref13_Cut.l0 k X (Z : Int) D H (ints C) L (acc ++ L) (l.map ints) ((i + 1 : Nat) : Int)) else (none))) := by
    intro k
    simp only [slabvaultref13_Cut.l0]
    rw [if_pos k1, if_pos k2, rd_L1_map _ i hlt, ht, hwrap]
  by_cases c : insideB (partN E F C) t = true
  · rw [if_pos c] at hw hk ⊢
    have hin : t ∈ lexList (partN E F C) := by
      rw [← lex_inside F (partN E F C) (hlF.trans hbox.lenP.symm) hbox.shape]
      exact List.mem_filter.2 ⟨htm, c⟩
    have hmem := hbox.mem hin
    have hpl := valid_place E _ hmem.2.1
    have hpc := piece hZ.1 hpl rfl hN X hX
    have hblk := block_length (Z := Z) (m := 1) hX (show placeN E (addN t (startN E F C)) + 1 ≤ prodN E from hpl)
    rw [Nat.one_mul] at hblk
    have hlen : acc.length + ((X.drop (placeN E (addN t (startN E F C)) * Z)).take Z).length < 140737488355328 := by
      rw [hblk]
      clear hblk hpc hpl hmem hin hopen hwrap hw hk hX hN
      omega
    refine ⟨hblk, Ev.step hopen ?_⟩
    rw [hD.eq, hH.eq] at hk ⊢
    refine Ev.bind hw ?_
    simp only [if_true]
    refine Ev.bind (refPlace_ev E _ hD.len hmem.2.1 hD.prod) ?_
    simp only [if_pos hpc.1, if_pos hpc.2.1, if_pos hpc.2.2.1, hpc.2.2.2, if_pos hlen]
    exact hk
  · rw [if_neg c] at hw hk ⊢
    have hlen : acc.length + L.length < 140737488355328 := by
      rw [hL]
      clear hopen hwrap hw hk hX hN
      omega
    refine ⟨hL, Ev.step hopen ?_⟩
    rw [hD.eq, hH.eq] at hk ⊢
    refine Ev.bind hw ?_
    simp only [if_neg (show ¬ (false = true) by decide), if_pos hlen]
    exact hk
theorem cut_ref_loop {D H : List Int} {E F C : List Nat} (hD : Ext D E) (hH : Ext H F) (hlF : F.length = E.length) (hF1 : ∀ d, d < F.length → 1 ≤ F.getD d 0) (hlC : C.length = E.length) (Z : Nat) (hZ : 1 ≤ Z ∧ Z ≤ 256) (X L : List Int) (hX : X.length = prodN E * Z) (hL : L.length = Z) (hN : prodN E * Z ≤ 65536) (l : List (List Nat)) (hl : l.length ≤ 1048576) (hlm : ∀ t ∈ l, t ∈ lexList F) : ∀ (d i : Nat) (acc : List Int), l.length - i = d → i ≤ l.length → acc.length = i * Z →
    Ev (fun k => slabvaultref13_Cut.l0 k X (Z : Int) D H (ints C) L acc (l.map ints) i) (acc ++ (l.drop i).flatMap fun t => if insideB (partN E F C) t = true then (X.drop (placeN E (addN t (startN E F C)) * Z)).take Z else L, 0) := by
  have lm : (l.map ints).length = l.length := List.length_map ..
  intro d
  induction d with
  | zero =>
    intro i acc hi hil hacc
    rw [List.drop_eq_nil_of_le (by omega)]
    refine Ev.step (f := fun _ => some (acc, 0)) (fun k => ?_) (by simpa using Ev.now (acc, (0 : Int)))
    simp only [slabvaultref13_Cut.l0]
    rw [if_neg (by rw [lm]; omega)]
  | succ d ih =>
    intro i acc hi hil hacc
    have hlt : i < l.length := by omega
    have htm := hlm _ (List.getElem_mem hlt)
    have hacc2 : acc.length ≤ 1048576 * 256 := by rw [hacc]; exact mulLt (by omega) hZ.2
    rw [List.drop_eq_getElem_cons hlt, List.flatMap_cons, ← List.append_assoc]
    have len : (if insideB (partN E F C) l[i] = true then (X.drop (placeN E (addN l[i] (startN E F C)) * Z)).take Z else L).length = Z := by
      by_cases c : insideB (partN E F C) l[i] = true
      · rw [if_pos c]
        have hbox := box_of E F C hlF
        have hin : l[i] ∈ lexList (partN E F C) := by
          rw [← lex_inside F (partN E F C) (hlF.trans hbox.lenP.symm) hbox.shape]
          exact List.mem_filter.2 ⟨htm, c⟩
        have hpl := valid_place E _ (hbox.mem hin).2.1
        have hblk := block_length (Z := Z) (m := 1) hX (show placeN E (addN l[i] (startN E F C)) + 1 ≤ prodN E from hpl)
        rwa [Nat.one_mul] at hblk
      · rw [if_neg c]; exact hL
    exact (cut_ref_round hD hH hlF hF1 hlC Z hZ X L hX hL hN l i hlt hl l[i] rfl htm acc hacc2 (ih (i + 1) _ (by omega) (by omega) (by rw [List.length_append, len, hacc, Nat.add_mul, Nat.one_mul]))).2
end Go.Proofs.Ytjbjofmcmjojlab.Pure
end
section
namespace Go.Proofs.Ytjbjofmcmjojlab.Pure
open Go.RowKit Go.Proofs.Ytjbjofmcmjojlab.Wk Go.Proofs.YtjbjofmcmjojlabW.PrintWords Go.Proofs.YtjbjofmcmjojlabW.PrintLast Go.Proofs.YtjbjofmcmjojlabW.PrintMore Go.Proofs.YtjbjofmcmjojlabQ
def sizedT (z n m : Int) : Int := if z < 1 ∨ 256 < z then 2 else if 65536 < n * z ∨ 65536 < m * z then 3 else 0
theorem wrap_size {n z : Int} (h0 : 0 ≤ n) (h1 : n ≤ 1048576) (hz : 1 ≤ z) (hz2 : z ≤ 256) : wrap64 (n * z) = n * z := by
  have a1 : 0 ≤ n * z := Int.mul_nonneg h0 (by omega)
  have a2 : n * z ≤ 1048576 * 256 := Int.mul_le_mul h1 hz2 (by omega) (by omega)
  generalize n * z = q at *
  unfold wrap64; omega
theorem sized_ev {D H : List Int} {E F : List Nat} (hD : Ext D E) (hH : Ext H F) (z : Int) : Ev (fun k => grid_sized.f k z [D, H]) (sizedT z (prodN E : Nat) (prodN F : Nat)) := by
  have r0 : rd_L1 [D, H] 0 = D := rfl
  have r1 : rd_L1 [D, H] 1 = H := rfl
  have two : ∀ k, grid_sized.j0 (k + 1) z [D, H] true = some 2 := fun k => by simp only [grid_sized.j0, if_true]
  unfold sizedT
  by_cases h1 : z < 1
  · rw [if_pos (.inl h1)]
    refine Ev.congr (f := fun k => grid_sized.j0 k z [D, H] true) (fun k => ?_) (Ev.step two (Ev.now _))
    unfold grid_sized.f
    rw [if_pos h1]
  by_cases h2 : 256 < z
  · rw [if_pos (.inr h2)]
    refine Ev.congr (f := fun k => grid_sized.j0 k z [D, H] true) (fun k => ?_) (Ev.step two (Ev.now _))
    unfold grid_sized.f
    rw [if_neg h1, decide_eq_true h2]
  rw [if_neg (by rintro (h | h) <;> contradiction)]
  have hwD := wrap_size (n := ((prodN E : Nat) : Int)) (by omega) (by have := hD.prod; omega) (show 1 ≤ z by omega) (show z ≤ 256 by omega)
  have hwH := wrap_size (n := ((prodN F : Nat) : Int)) (by omega) (by have := hH.prod; omega) (show 1 ≤ z by omega) (show z ≤ 256 by omega)
  have hD1 : (elemsT D).1 = ((prodN E : Nat) : Int) := by rw [hD.elems]
  have hH1 : (elemsT H).1 = ((prodN F : Nat) : Int) := by rw [hH.elems]
  refine Ev.congr (f := fun k => grid_sized.j0 k z [D, H] false) (fun k => ?_) (Ev.step (f := fun k => grid_sized.l0 k z [D, H] 2 0) (fun k => ?_) ?_)
  · unfold grid_sized.f
    rw [if_neg h1, decide_eq_false h2]
  · simp only [grid_sized.j0, if_neg (show ¬ (false = true) by decide), List.length_cons, List.length_nil]
    rfl
  have e1 : wrap64 ((0 : Int) + 1) = 1 := by unfold wrap64; omega
  have e2 : wrap64 ((1 : Int) + 1) = 2 := by unfold wrap64; omega
  have s0 : ∀ k, grid_sized.l0 (k + 1) z [D, H] 2 0 = if ((prodN E : Nat) : Int) * z > 65536 then some 3 else grid_sized.l0 k z [D, H] 2 1 := by
    intro k
    simp only [grid_sized.l0]
    rw [if_pos (by omega), if_pos (by omega), if_pos (by simp), r0, elements_eq]
    simp only [Option.bind_some]
    rw [hD1, hwD, e1]
  have s1 : ∀ k, grid_sized.l0 (k + 1) z [D, H] 2 1 = if ((prodN F : Nat) : Int) * z > 65536 then some 3 else grid_sized.l0 k z [D, H] 2 2 := by
    intro k
    simp only [grid_sized.l0]
    rw [if_pos (by omega), if_pos (by omega), if_pos (by simp), r1, elements_eq]
    simp only [Option.bind_some]
    rw [hH1, hwH, e2]
  have s2 : ∀ k, grid_sized.l0 (k + 1) z [D, H] 2 2 = some 0 := by
    intro k
    simp only [grid_sized.l0]
    rw [if_neg (by omega)]
  by_cases c1 : 65536 < ((prodN E : Nat) : Int) * z
  · rw [if_pos (.inl c1)]
    exact Ev.step (fun k => (s0 k).trans (if_pos c1)) (Ev.now _)
  · by_cases c2 : 65536 < ((prodN F : Nat) : Int) * z
    · rw [if_pos (.inr c2)]
      exact Ev.step (fun k => (s0 k).trans (if_neg c1)) (Ev.step (fun k => (s1 k).trans (if_pos c2)) (Ev.now _))
    · rw [if_neg (by rintro (h | h) <;> contradiction)]
      exact Ev.step (fun k => (s0 k).trans (if_neg c1)) (Ev.step (fun k => (s1 k).trans (if_neg c2)) (Ev.step s2 (Ev.now _)))
def lastT (D H c : List Int) (z x l : Int) (whole : Bool) : Int := if x = (elemsT D).1 * z ∧ l = (if whole = true then (elemsT H).1 * z else z) ∧ rightT c D.length = true then 0 else 2
def errT (D H c : List Int) (z x l : Int) (whole : Bool) : Int := if fitT D H = 0 then (if sizedT z (elemsT D).1 (elemsT H).1 = 0 then lastT D H c z x l whole else sizedT z (elemsT D).1 (elemsT H).1) else fitT D H
theorem bytes_ev (X : List Int) (z : Int) (D H c L : List Int) (whole : Bool) (lD : D.length ≤ 9223372036854775807) (lH : H.length ≤ 9223372036854775807) (lc : c.length ≤ 9223372036854775807) : Ev (fun k => slabvaultref13_bytes.f k X z D H c L whole) (errT D H c z X.length L.length whole) := by
  unfold slabvaultref13_bytes.f errT
  refine Ev.bind (refFit_ev D H lD lH) ?_
  by_cases h0 : fitT D H = 0
  case neg =>
    simp only [if_neg h0]
    exact Ev.now _
  simp only [if_pos h0]
  obtain ⟨E, F, hD, hH, -, -⟩ := fit_exts h0
  have hD1 : (elemsT D).1 = ((prodN E : Nat) : Int) := by rw [hD.elems]
  have hH1 : (elemsT H).1 = ((prodN F : Nat) : Int) := by rw [hH.elems]
  have two : ∀ k, slabvaultref13_bytes.j0 (k + 1) X z D H c L whole true = some 2 := fun k => by simp only [slabvaultref13_bytes.j0, if_true]
  by_cases h1 : z < 1
  · have e : sizedT z (elemsT D).1 (elemsT H).1 = 2 := by unfold sizedT; rw [if_pos (.inl h1)]
    rw [e, if_neg (by decide)]
    simp only [if_pos h1]
    exact Ev.step two (Ev.now _)
  by_cases h2 : 256 < z
  · have e : sizedT z (elemsT D).1 (elemsT H).1 = 2 := by unfold sizedT; rw [if_pos (.inr h2)]
    rw [e, if_neg (by decide)]
    have d2 : decide (z > 256) = true := decide_eq_true h2
    simp only [if_neg h1, d2]
    exact Ev.step two (Ev.now _)
  have d2 : decide (z > 256) = false := decide_eq_false h2
  simp only [if_neg h1, d2]
  have hwD := wrap_size (n := ((prodN E : Nat) : Int)) (by omega) (by have := hD.prod; omega) (show 1 ≤ z by omega) (show z ≤ 256 by omega)
  have hwH := wrap_size (n := ((prodN F : Nat) : Int)) (by omega) (by have := hH.prod; omega) (show 1 ≤ z by omega) (show z ≤ 256 by omega)
  refine Ev.step (f := fun k => (slabvaultref12_Elements.f k D).bind fun a => (slabvaultref12_Elements.f k H).bind fun b => (if (wrap64 (a.1 * z)) > 65536 then (slabvaultref13_bytes.j1 k X z D c L whole a.1 b.1 true) else (slabvaultref13_bytes.j1 k X z D c L whole a.1 b.1 (decide ((wrap64 (b.1 * z)) > 65536))))) (fun k => ?_) ?_
  · simp only [slabvaultref13_bytes.j0, if_neg (show ¬ (false = true) by decide)]
  refine Ev.bind (refElements_ev D lD) (Ev.bind (refElements_ev H lH) ?_)
  rw [hD1, hH1, hwD, hwH]
  have three : ∀ k, slabvaultref13_bytes.j1 (k + 1) X z D c L whole ((prodN E : Nat) : Int) ((prodN F : Nat) : Int) true = some 3 := fun k => by simp only [slabvaultref13_bytes.j1, if_true]
  by_cases c1 : 65536 < ((prodN E : Nat) : Int) * z
  · have e : sizedT z ((prodN E : Nat) : Int) ((prodN F : Nat) : Int) = 3 := by unfold sizedT; rw [if_neg (by rintro (h | h) <;> contradiction), if_pos (.inl c1)]
    rw [e, if_neg (by decide)]
    simp only [gt_iff_lt, if_pos c1]
    exact Ev.step three (Ev.now _)
  by_cases c2 : 65536 < ((prodN F : Nat) : Int) * z
  · have e : sizedT z ((prodN E : Nat) : Int) ((prodN F : Nat) : Int) = 3 := by unfold sizedT; rw [if_neg (by rintro (h | h) <;> contradiction), if_pos (.inr c2)]
    rw [e, if_neg (by decide)]
    simp only [gt_iff_lt, if_neg c1, decide_eq_true c2]
    exact Ev.step three (Ev.now _)
  have e : sizedT z ((prodN E : Nat) : Int) ((prodN F : Nat) : Int) = 0 := by unfold sizedT; rw [if_neg (by rintro (h | h) <;> contradiction), if_neg (by rintro (h | h) <;> contradiction)]
  rw [e, if_pos rfl]
  simp only [gt_iff_lt, if_neg c1, decide_eq_false c2]
  have last : ∀ want : Int, want = (if whole = true then ((prodN F : Nat) : Int) * z else z) → Ev (fun k => slabvaultref13_bytes.j2 k X z D c L ((prodN E : Nat) : Int) want) (lastT D H c z X.length L.length whole) := by
    intro want hwant
    unfold lastT
    rw [hD1, hH1, ← hwant]
    by_cases x1 : (X.length : Int) = ((prodN E : Nat) : Int) * z
    case neg =>
      rw [if_neg (fun h => x1 h.1)]
      refine Ev.step (f := fun _ => some 2) (fun k => ?_) (Ev.now _)
      simp only [slabvaultref13_bytes.j2]
      rw [hwD, if_neg x1]
    by_cases x2 : (L.length : Int) = want
    case neg =>
      rw [if_neg (fun h => x2 h.2.1)]
      refine Ev.step (f := fun _ => some 2) (fun k => ?_) (Ev.now _)
      simp only [slabvaultref13_bytes.j2]
      rw [hwD, if_pos x1, if_neg x2]
    have hopen : ∀ k, slabvaultref13_bytes.j2 (k + 1) X z D c L ((prodN E : Nat) : Int) want = (slabvaultref13_right.f k c (D.length : Int)).bind fun b => (if b = true then some 0 else some 2) := by
      intro k
      simp only [slabvaultref13_bytes.j2]
      rw [hwD, if_pos x1, if_pos x2]
    by_cases x3 : rightT c D.length = true
    · rw [if_pos ⟨x1, x2, x3⟩]
      refine Ev.step hopen (Ev.bind (refRight_ev c D.length lc) ?_)
      simp only [if_pos x3]
      exact Ev.now _
    · rw [if_neg (fun h => x3 h.2.2)]
      refine Ev.step hopen (Ev.bind (refRight_ev c D.length lc) ?_)
      simp only [if_neg x3]
      exact Ev.now _
  cases whole with
  | true =>
    refine Ev.step (f := fun k => slabvaultref13_bytes.j2 k X z D c L ((prodN E : Nat) : Int) (((prodN F : Nat) : Int) * z)) (fun k => ?_) (last _ rfl)
    simp only [slabvaultref13_bytes.j1, if_true, if_neg (show ¬ (false = true) by decide)]
    rw [hwH]
  | false =>
    refine Ev.step (f := fun k => slabvaultref13_bytes.j2 k X z D c L ((prodN E : Nat) : Int) z) (fun k => ?_) (last _ rfl)
    simp only [slabvaultref13_bytes.j1, if_neg (show ¬ (false = true) by decide)]
structure Okay (D H c : List Int) (z : Int) (x l : Nat) (whole : Bool) (E F C : List Nat) (Z : Nat) : Prop where
  extD : Ext D E
  extH : Ext H F
  lenF : F.length = E.length
  one : ∀ d, d < F.length → 1 ≤ F.getD d 0
  lenC : C.length = E.length
  co : c = ints C
  size : z = (Z : Int)
  min : 1 ≤ Z ∧ Z ≤ 256
  bigE : prodN E * Z ≤ 65536
  bigF : prodN F * Z ≤ 65536
  lenX : x = prodN E * Z
  lenL : l = if whole = true then prodN F * Z else Z
theorem ints_of {l : List Int} (h : ∀ x ∈ l, 0 ≤ x) : ints (l.map Int.toNat) = l := by
  induction l with
  | nil => rfl
  | cons x l ih =>
    have h1 := ih (fun y hy => h y (List.mem_cons_of_mem _ hy))
    simp only [ints, List.map_cons] at h1 ⊢
    rw [h1]
    congr 1
    exact Int.toNat_of_nonneg (h x List.mem_cons_self)
theorem okay_of {D H c : List Int} {z : Int} {x l : Nat} {whole : Bool} (h : errT D H c z x l whole = 0) : Okay D H c z x l whole (D.map Int.toNat) (H.map Int.toNat) (c.map Int.toNat) z.toNat := by
  unfold errT at h
  by_cases h0 : fitT D H = 0
  case neg => rw [if_neg h0] at h; contradiction
  rw [if_pos h0] at h
  have hg := good_of_fit h0
  have h1 : (elemsT D).2 = 0 := by
    have h3 := h0
    unfold fitT at h3
    split at h3
    · assumption
    · contradiction
  have h2 : (elemsT H).2 = 0 := by
    have h3 := h0
    unfold fitT at h3
    rw [if_pos h1, if_pos hg.same] at h3
    split at h3
    · cases h3
    · exact h3
  have hD := ext_of h1
  have hH := ext_of h2
  have hD1 : (elemsT D).1 = ((prodN (D.map Int.toNat) : Nat) : Int) := by rw [hD.elems]
  have hH1 : (elemsT H).1 = ((prodN (H.map Int.toNat) : Nat) : Int) := by rw [hH.elems]
  by_cases hs : sizedT z (elemsT D).1 (elemsT H).1 = 0
  case neg => rw [if_neg hs] at h; contradiction
  rw [if_pos hs] at h
  unfold lastT at h
  by_cases hl : (x : Int) = (elemsT D).1 * z ∧ (l : Int) = (if whole = true then (elemsT H).1 * z else z) ∧ rightT c D.length = true
  case neg => rw [if_neg hl] at h; exact absurd h (by decide)
  clear h
  unfold sizedT at hs
  by_cases hz : z < 1 ∨ 256 < z
  case pos => rw [if_pos hz] at hs; exact absurd hs (by decide)
  rw [if_neg hz] at hs
  by_cases hb : 65536 < (elemsT D).1 * z ∨ 65536 < (elemsT H).1 * z
  case pos => rw [if_pos hb] at hs; exact absurd hs (by decide)
  clear hs
  have hzz : z = (z.toNat : Int) := by omega
  have hz1 : 1 ≤ z.toNat ∧ z.toNat ≤ 256 := by omega
  rw [hD1, hH1, hzz, mul_cast, mul_cast] at hb
  obtain ⟨l1, l2, l3⟩ := hl
  rw [hD1] at l1
  rw [hH1] at l2
  have hr := right_of l3
  refine ⟨hD, hH, by simp [hg.same], fun d hd => ?_, by simp [hr.1], (ints_of (fun y hy => ?_)).symm, hzz, hz1, by omega, by omega, ?_, ?_⟩
  · have hd' : d < H.length := by simpa using hd
    have := hg.shape d (by have := hg.same; omega)
    rw [rd_nat H d hd'] at this
    simp [List.getD_eq_getElem?_getD, hd']; omega
  · obtain ⟨i, hi, rfl⟩ := List.getElem_of_mem hy
    rw [← rd_nat c i hi]
    exact hr.2 i hi
  · rw [hzz, mul_cast] at l1
    exact Int.ofNat_inj.1 l1
  · cases whole with
    | true =>
      simp only [if_true] at l2 ⊢
      rw [hzz, mul_cast] at l2
      exact Int.ofNat_inj.1 l2
    | false =>
      simp only [if_neg (show ¬ (false = true) by decide)] at l2 ⊢
      omega
end Go.Proofs.Ytjbjofmcmjojlab.Pure
end
section
namespace Go.Proofs.Ytjbjofmcmjojlab.Pure
open Go.RowKit Go.Proofs.Ytjbjofmcmjojlab.Wk Go.Proofs.YtjbjofmcmjojlabW.PrintWords Go.Proofs.YtjbjofmcmjojlabW.PrintLast Go.Proofs.YtjbjofmcmjojlabW.PrintMore Go.Proofs.YtjbjofmcmjojlabQ
def cutList (E F C : List Nat) : List (Nat × Nat) := (lexList (partN E F C)).map fun t => (placeN F t, placeN E (addN t (startN E F C)))
def pasteList (E F C : List Nat) : List (Nat × Nat) := (lexList (partN E F C)).map fun t => (placeN E (addN t (startN E F C)), placeN F t)
def cutR (D H c : List Int) (z : Int) (X L : List Int) : List Int := puts z.toNat X (repB (prodN (H.map Int.toNat)) L) (cutList (D.map Int.toNat) (H.map Int.toNat) (c.map Int.toNat))
def pasteR (D H c : List Int) (z : Int) (Y X : List Int) : List Int := puts z.toNat X Y (pasteList (D.map Int.toNat) (H.map Int.toNat) (c.map Int.toNat))
def cutT (X : List Int) (z : Int) (D H c L : List Int) : List Int × Int := if errT D H c z X.length L.length false = 0 then (cutR D H c z X L, 0) else ([], errT D H c z X.length L.length false)
def pasteT (Y : List Int) (z : Int) (D H c X : List Int) : List Int × Int := if errT D H c z Y.length X.length true = 0 then (pasteR D H c z Y X, 0) else ([], errT D H c z Y.length X.length true)
theorem start_le (E F C : List Nat) (hE : ∀ d, E.getD d 0 ≤ 1048576) (d : Nat) : (startN E F C).getD d 0 ≤ 1048576 := by
  rw [startN_getD]
  have h1 := cN_le (E.getD d 0) (F.getD d 0) (C.getD d 0)
  have h2 := hE d
  split <;> omega
theorem part_okay {E F C : List Nat} (hlF : F.length = E.length) (h4 : E.length ≤ 4) (hF : ∀ d, F.getD d 0 ≤ 1048576) : (ints (partN E F C)).length ≤ 4 ∧ ∀ x ∈ ints (partN E F C), 0 ≤ x ∧ x ≤ 1048576 := by
  have hb := box_of E F C hlF
  refine ⟨by rw [ints_length, hb.lenP]; exact h4, fun x hx => ?_⟩
  obtain ⟨n, hn, rfl⟩ := List.mem_map.1 hx
  obtain ⟨i, hi, rfl⟩ := List.getElem_of_mem hn
  have h1 := hb.shape i
  have h2 := hF i
  rw [List.getD_eq_getElem?_getD, List.getElem?_eq_getElem hi, Option.getD_some] at h1
  exact ⟨Int.natCast_nonneg _, Int.ofNat_le.2 (Nat.le_trans h1 h2)⟩
theorem okay_clip {D H c : List Int} {z : Int} {x l : Nat} {whole : Bool} {E F C : List Nat} {Z : Nat} (h : Okay D H c z x l whole E F C Z) (h0 : fitT D H = 0) (hH : H.length ≤ maxLen) (hc : c.length ≤ maxLen) : Ev (fun k => grid_Clip.f k D H c) (ints (startN E F C), ints (partN E F C), 0) := by
  have he := clip_ev D H c hH hc
  have e1 : c.length = D.length := by rw [h.co, h.extD.eq, ints_length, ints_length]; exact h.lenC
  rw [clipT_ok h0 e1 (fun i hi => by rw [h.co, rd_ints]; exact Int.natCast_nonneg _)] at he
  rw [h.co, h.extD.eq, h.extH.eq] at he ⊢
  rw [clipS_ints, clipP_ints] at he
  exact he
theorem okay_right {D H c : List Int} {z : Int} {x l : Nat} {whole : Bool} (h : errT D H c z x l whole = 0) : fitT D H = 0 ∧ sizedT z (elemsT D).1 (elemsT H).1 = 0 ∧ (x : Int) = (elemsT D).1 * z ∧ (l : Int) = (if whole = true then (elemsT H).1 * z else z) ∧ rightT c D.length = true := by
  unfold errT at h
  by_cases h0 : fitT D H = 0
  case neg => rw [if_neg h0] at h; contradiction
  rw [if_pos h0] at h
  by_cases hs : sizedT z (elemsT D).1 (elemsT H).1 = 0
  case neg => rw [if_neg hs] at h; contradiction
  rw [if_pos hs] at h
  unfold lastT at h
  by_cases hl : (x : Int) = (elemsT D).1 * z ∧ (l : Int) = (if whole = true then (elemsT H).1 * z else z) ∧ rightT c D.length = true
  case neg => rw [if_neg hl] at h; exact absurd h (by decide)
  exact ⟨h0, hs, hl⟩
theorem sized_wraps {D H : List Int} {E F : List Nat} (hD : Ext D E) (hH : Ext H F) {z : Int} (h : sizedT z (elemsT D).1 (elemsT H).1 = 0) : wrap64 ((elemsT D).1 * z) = (elemsT D).1 * z ∧ wrap64 ((elemsT H).1 * z) = (elemsT H).1 * z := by
  have hD1 : (elemsT D).1 = ((prodN E : Nat) : Int) := by rw [hD.elems]
  have hH1 : (elemsT H).1 = ((prodN F : Nat) : Int) := by rw [hH.elems]
  have hz : ¬ (z < 1 ∨ 256 < z) := by
    intro hz
    unfold sizedT at h
    rw [if_pos hz] at h
    exact absurd h (by decide)
  have p1 := hD.prod
  have p2 := hH.prod
  rw [hD1, hH1]
  exact ⟨wrap_size (by omega) (by omega) (by omega) (by omega), wrap_size (by omega) (by omega) (by omega) (by omega)⟩
theorem refused {D H c : List Int} {z x l : Int} {whole : Bool} (h : ¬ errT D H c z x l whole = 0) : (¬ fitT D H = 0 ∧ errT D H c z x l whole = fitT D H) ∨ (fitT D H = 0 ∧ ¬ sizedT z (elemsT D).1 (elemsT H).1 = 0 ∧ errT D H c z x l whole = sizedT z (elemsT D).1 (elemsT H).1) ∨
    (fitT D H = 0 ∧ sizedT z (elemsT D).1 (elemsT H).1 = 0 ∧ ¬ (x = (elemsT D).1 * z ∧ l = (if whole = true then (elemsT H).1 * z else z) ∧ rightT c D.length = true) ∧ errT D H c z x l whole = 2) := by
  unfold errT at h ⊢
  by_cases h0 : fitT D H = 0
  case neg => rw [if_neg h0]; exact .inl ⟨h0, rfl⟩
  rw [if_pos h0] at h ⊢
  by_cases hs : sizedT z (elemsT D).1 (elemsT H).1 = 0
  case neg => rw [if_neg hs]; exact .inr (.inl ⟨h0, hs, rfl⟩)
  rw [if_pos hs] at h ⊢
  unfold lastT at h ⊢
  by_cases hl : x = (elemsT D).1 * z ∧ l = (if whole = true then (elemsT H).1 * z else z) ∧ rightT c D.length = true
  case pos => rw [if_pos hl] at h; exact absurd rfl h
  rw [if_neg hl]
  exact .inr (.inr ⟨h0, hs, hl, rfl⟩)
theorem cut_ev (X : List Int) (z : Int) (D H c L : List Int) (hH : H.length ≤ maxLen) (hc : c.length ≤ maxLen) : Ev (fun k => grid_Cut.f k X z D H c L) (cutT X z D H c L) := by
  unfold grid_Cut.f cutT
  rw [fit_eq D H hH]
  simp only [Option.bind_some]
  by_cases he : errT D H c z X.length L.length false = 0
  · rw [if_pos he]
    have ho := okay_of he
    obtain ⟨h0, hs, l1, l2, l3⟩ := okay_right he
    have hw := sized_wraps ho.extD ho.extH hs
    have hsz := sized_ev ho.extD ho.extH z
    have hD1 : (elemsT D).1 = ((prodN (D.map Int.toNat) : Nat) : Int) := by rw [ho.extD.elems]
    have hH1 : (elemsT H).1 = ((prodN (H.map Int.toNat) : Nat) : Int) := by rw [ho.extH.elems]
    rw [← hD1, ← hH1, hs] at hsz
    simp only [if_pos h0]
    refine Ev.bind hsz ?_
    simp only [if_true]
    rw [elements_eq, elements_eq, right_eq c D.length hc]
    simp only [Option.bind_some]
    have hcond : (X.length : Int) = wrap64 ((elemsT D).1 * z) ∧ (L.length : Int) = z ∧ rightT c D.length = true := ⟨by rw [hw.1]; exact l1, by simpa using l2, l3⟩
    simp only [if_pos hcond]
    have hrep : bytes_Repeat.f L (elemsT H).1 = some (repB (prodN (H.map Int.toNat)) L) := by
      unfold bytes_Repeat.f
      rw [hH1]
      have hl := ho.lenL
      simp only [if_neg (show ¬ (false = true) by decide)] at hl
      have b1 := ho.bigF
      have b2 := ho.min
      have b3 := ho.extH.prod
      rw [Nat.mul_comm] at b1
      rw [if_pos ⟨by omega, by omega, by rw [hl, Int.toNat_natCast]; exact b1, by omega, by omega⟩, Int.toNat_natCast]
    rw [hrep]
    simp only [Option.bind_some]
    refine Ev.bind (okay_clip ho h0 hH hc) ?_
    simp only [if_pos (part_okay ho.lenF ho.extD.len ho.extH.dim)]
    have hlen : (repB (prodN (H.map Int.toNat)) L).length = prodN (H.map Int.toNat) * z.toNat := by
      have hl := ho.lenL
      simp only [if_neg (show ¬ (false = true) by decide)] at hl
      rw [repB_length, hl]
    have hfold := cut_fold ho.extD ho.extH (box_of _ _ _ ho.lenF) (start_le _ _ (c.map Int.toNat) ho.extD.dim) rfl z.toNat ho.min.1 X (repB (prodN (H.map Int.toNat)) L) ho.lenX hlen ho.bigE ho.bigF (repB (prodN (H.map Int.toNat)) L).length rfl
    rw [← ho.size] at hfold
    exact Ev.bind hfold (Ev.now _)
  · rw [if_neg he]
    rcases refused he with ⟨h0, e⟩ | ⟨h0, hs, e⟩ | ⟨h0, hs, hl, e⟩
    · rw [e]
      simp only [if_neg h0]
      exact Ev.now _
    · rw [e]
      obtain ⟨E, F, hD, hH', -, -⟩ := fit_exts h0
      have hsz := sized_ev hD hH' z
      have hD1 : (elemsT D).1 = ((prodN E : Nat) : Int) := by rw [hD.elems]
      have hH1 : (elemsT H).1 = ((prodN F : Nat) : Int) := by rw [hH'.elems]
      rw [← hD1, ← hH1] at hsz
      simp only [if_pos h0]
      refine Ev.bind hsz ?_
      simp only [if_neg hs]
      exact Ev.now _
    · rw [e]
      obtain ⟨E, F, hD, hH', -, -⟩ := fit_exts h0
      have hsz := sized_ev hD hH' z
      have hw := sized_wraps hD hH' hs
      have hD1 : (elemsT D).1 = ((prodN E : Nat) : Int) := by rw [hD.elems]
      have hH1 : (elemsT H).1 = ((prodN F : Nat) : Int) := by rw [hH'.elems]
      rw [← hD1, ← hH1, hs] at hsz
      simp only [if_pos h0]
      refine Ev.bind hsz ?_
      simp only [if_true]
      rw [elements_eq, elements_eq, right_eq c D.length hc]
      simp only [Option.bind_some]
      have hcond : ¬ ((X.length : Int) = wrap64 ((elemsT D).1 * z) ∧ (L.length : Int) = z ∧ rightT c D.length = true) := by
        rw [hw.1]
        simpa using hl
      simp only [if_neg hcond]
      exact Ev.now _
theorem refCut_ev (X : List Int) (z : Int) (D H c L : List Int) (lD : D.length ≤ 9223372036854775807) (lH : H.length ≤ 9223372036854775807) (lc : c.length ≤ 9223372036854775807) : Ev (fun k => slabvaultref13_Cut.f k X z D H c L) (cutT X z D H c L) := by
  unfold slabvaultref13_Cut.f cutT
  refine Ev.bind (bytes_ev X z D H c L false lD lH lc) ?_
  by_cases he : errT D H c z X.length L.length false = 0
  case neg =>
    simp only [if_neg he]
    exact Ev.now _
  simp only [if_pos he]
  have ho := okay_of he
  have ht := tuples_ev (H.map Int.toNat) (by have := ho.extH.len; exact this) ho.extH.dim ho.one ho.extH.prod
  rw [← ho.extH.eq] at ht
  refine Ev.bind ht ?_
  have hl := ho.lenL
  simp only [if_neg (show ¬ (false = true) by decide)] at hl
  have hloop := cut_ref_loop ho.extD ho.extH ho.lenF ho.one ho.lenC z.toNat ho.min X L ho.lenX hl ho.bigE (lexList (H.map Int.toNat)) (by rw [lex_length]; exact ho.extH.prod) (fun t ht => ht) (lexList (H.map Int.toNat)).length 0 [] rfl (Nat.zero_le _) (by simp)
  have hbox := box_of (D.map Int.toNat) (H.map Int.toNat) (c.map Int.toNat) ho.lenF
  have hfill := fill_puts (X := X) ho.lenX hl (H.map Int.toNat) (insideB (partN (D.map Int.toNat) (H.map Int.toNat) (c.map Int.toNat))) (fun t => placeN (D.map Int.toNat) (addN t (startN (D.map Int.toNat) (H.map Int.toNat) (c.map Int.toNat)))) (lexList (H.map Int.toNat)) [] [] rfl (by simp) (fun t ht hi => valid_place _ _ (hbox.mem (by
    rw [← lex_inside _ _ (ho.lenF.trans hbox.lenP.symm) hbox.shape]
    exact List.mem_filter.2 ⟨ht, hi⟩)).2.1)
  rw [lex_inside _ _ (ho.lenF.trans hbox.lenP.symm) hbox.shape, lex_length] at hfill
  simp only [List.nil_append, List.drop_zero] at hloop hfill
  rw [← hfill, ← ho.size, ← ho.co] at hloop
  exact hloop
end Go.Proofs.Ytjbjofmcmjojlab.Pure
end
section
namespace Go.Proofs.Ytjbjofmcmjojlab.Pure
open Go.RowKit Go.Proofs.Ytjbjofmcmjojlab.Wk Go.Proofs.YtjbjofmcmjojlabW.PrintWords Go.Proofs.YtjbjofmcmjojlabW.PrintLast
def heavyT (X : List Int) (D H L : List Int) : Bool := decide ((X.length : Int) > 10000) || (decide ((L.length : Int) > 10000) || (decide ((elemsT D).1 > 3000) || decide ((elemsT H).1 > 3000)))
theorem wide_ev (D : List Int) (lD : D.length ≤ 9223372036854775807) : Ev (fun k => slabvaultlaw13_wide.f k D) (decide ((elemsT D).1 > 3000)) := by
  unfold slabvaultlaw13_wide.f
  exact Ev.bind (refElements_ev D lD) (Ev.now _)
theorem heavy_ev (X : List Int) (z : Int) (D H c L : List Int) (lD : D.length ≤ 9223372036854775807) (lH : H.length ≤ 9223372036854775807) : Ev (fun k => slabvaultlaw13_heavy.f k X z D H c L) (heavyT X D H L) := by
  unfold slabvaultlaw13_heavy.f heavyT
  by_cases h1 : (X.length : Int) > 10000
  · simp only [if_pos h1, decide_eq_true h1, Bool.true_or]
    exact Ev.now _
  simp only [if_neg h1, decide_eq_false h1, Bool.false_or]
  by_cases h2 : (L.length : Int) > 10000
  · simp only [if_pos h2, decide_eq_true h2, Bool.true_or]
    exact Ev.now _
  simp only [if_neg h2, decide_eq_false h2, Bool.false_or]
  refine Ev.bind (wide_ev D lD) ?_
  by_cases h3 : (elemsT D).1 > 3000
  · simp only [decide_eq_true h3, Bool.true_or, if_true]
    exact Ev.now _
  simp only [decide_eq_false h3, Bool.false_or, if_neg (show ¬ (false = true) by decide)]
  exact Ev.bind (wide_ev H lH) (Ev.now _)
theorem heavy_small {X D H L : List Int} (h : heavyT X D H L = false) : X.length ≤ 10000 ∧ L.length ≤ 10000 := by
  unfold heavyT at h
  simp only [Bool.or_eq_false_iff, decide_eq_false_iff_not] at h
  omega
theorem Ev.both {α β : Type} {f : Nat → Option α} {g : Nat → Option β} {a : α} {b : β} (hf : Ev f a) (hg : Ev g b) : ∃ K, ∀ k, K ≤ k → f k = some a ∧ g k = some b := by
  obtain ⟨K1, h1⟩ := hf
  obtain ⟨K2, h2⟩ := hg
  exact ⟨max K1 K2, fun k hk => ⟨h1 k (by omega), h2 k (by omega)⟩⟩
theorem GridCuts (X : List Int) (z : Int) (D H c L : List Int) (lD : D.length ≤ maxLen) (lH : H.length ≤ maxLen) (lc : c.length ≤ maxLen) :
    ∃ k hv, slabvaultlaw13_heavy.f k X z D H c L = some hv ∧ (hv = false → X.length ≤ 10000 ∧ L.length ≤ 10000 ∧ ∃ r e, grid_Cut.f k X z D H c L = some (r, e) ∧ slabvaultref13_Cut.f k X z D H c L = some (r, e)) := by
  have hm : maxLen = 9223372036854775807 := rfl
  obtain ⟨K1, h1⟩ := Ev.both (cut_ev X z D H c L lH lc) (refCut_ev X z D H c L (by omega) (by omega) (by omega))
  obtain ⟨K2, h2⟩ := heavy_ev X z D H c L (by omega) (by omega)
  refine ⟨max K1 K2, _, h2 _ (by omega), fun hf => ?_⟩
  have hs := heavy_small hf
  have hk := h1 (max K1 K2) (by omega)
  exact ⟨hs.1, hs.2, (cutT X z D H c L).1, (cutT X z D H c L).2, hk.1, hk.2⟩
end Go.Proofs.Ytjbjofmcmjojlab.Pure
end
