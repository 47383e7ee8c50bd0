-- Texts that the row GridPastes leans on, joined by wip/tools/mkclaim.py: PlainPaste, PlainHeavy, PureGridPastes
import Derived.Test.YtjbjofmcmjojlabCGridPastes3
section
namespace Go.Proofs.Ytjbjofmcmjojlab.Pure
open Go.RowKit Go.Proofs.Ytjbjofmcmjojlab.Wk Go.Proofs.YtjbjofmcmjojlabW.PrintWords Go.Proofs.YtjbjofmcmjojlabW.PrintLast Go.Proofs.YtjbjofmcmjojlabW.PrintMore Go.Proofs.YtjbjofmcmjojlabQ
theorem paste_ev (Y : List Int) (z : Int) (D H c X : List Int) (hH : H.length ≤ maxLen) (hc : c.length ≤ maxLen) : Ev (fun k => grid_Paste.f k Y z D H c X) (pasteT Y z D H c X) := by
  unfold grid_Paste.f pasteT
  rw [fit_eq D H hH]
  simp only [Option.bind_some]
  by_cases he : errT D H c z Y.length X.length true = 0
  · rw [if_pos he]
    have ho := okay_of he
    obtain ⟨h0, hs, l1, l2, l3⟩ := okay_right he
    have hw := sized_wraps ho.extD ho.extH hs
    have hsz := sized_ev ho.extD ho.extH z
    have hD1 : (elemsT D).1 = ((prodN (D.map Int.toNat) : Nat) : Int) := by rw [ho.extD.elems]
    have hH1 : (elemsT H).1 = ((prodN (H.map Int.toNat) : Nat) : Int) := by rw [ho.extH.elems]
    rw [← hD1, ← hH1, hs] at hsz
    simp only [if_pos h0]
    refine Ev.bind hsz ?_
    simp only [if_true]
    rw [elements_eq, elements_eq, right_eq c D.length hc]
    simp only [Option.bind_some]
    have hcond : (Y.length : Int) = wrap64 ((elemsT D).1 * z) ∧ (X.length : Int) = wrap64 ((elemsT H).1 * z) ∧ rightT c D.length = true := ⟨by rw [hw.1]; exact l1, by rw [hw.2]; simpa using l2, l3⟩
    simp only [if_pos hcond]
    have hcl : slices_Clone_byte_byte.f Y = some Y := by
      unfold slices_Clone_byte_byte.f
      have b1 := ho.bigE
      have b2 := ho.lenX
      rw [if_pos (by omega)]
    rw [hcl]
    simp only [Option.bind_some]
    refine Ev.bind (okay_clip ho h0 hH hc) ?_
    simp only [if_pos (part_okay ho.lenF ho.extD.len ho.extH.dim)]
    have hl := ho.lenL
    simp only [if_true] at hl
    have hfold := paste_fold ho.extD ho.extH (box_of _ _ _ ho.lenF) (start_le _ _ (c.map Int.toNat) ho.extD.dim) rfl z.toNat ho.min.1 X Y hl ho.lenX ho.bigF ho.bigE Y.length rfl
    rw [← ho.size] at hfold
    exact Ev.bind hfold (Ev.now _)
  · rw [if_neg he]
    rcases refused he with ⟨h0, e⟩ | ⟨h0, hs, e⟩ | ⟨h0, hs, hl, e⟩
    · rw [e]
      simp only [if_neg h0]
      exact Ev.now _
    · rw [e]
      obtain ⟨E, F, hD, hH', -, -⟩ := fit_exts h0
      have hsz := sized_ev hD hH' z
      have hD1 : (elemsT D).1 = ((prodN E : Nat) : Int) := by rw [hD.elems]
      have hH1 : (elemsT H).1 = ((prodN F : Nat) : Int) := by rw [hH'.elems]
      rw [← hD1, ← hH1] at hsz
      simp only [if_pos h0]
      refine Ev.bind hsz ?_
      simp only [if_neg hs]
      exact Ev.now _
    · rw [e]
      obtain ⟨E, F, hD, hH', -, -⟩ := fit_exts h0
      have hsz := sized_ev hD hH' z
      have hw := sized_wraps hD hH' hs
      have hD1 : (elemsT D).1 = ((prodN E : Nat) : Int) := by rw [hD.elems]
      have hH1 : (elemsT H).1 = ((prodN F : Nat) : Int) := by rw [hH'.elems]
      rw [← hD1, ← hH1, hs] at hsz
      simp only [if_pos h0]
      refine Ev.bind hsz ?_
      simp only [if_true]
      rw [elements_eq, elements_eq, right_eq c D.length hc]
      simp only [Option.bind_some]
      have hcond : ¬ ((Y.length : Int) = wrap64 ((elemsT D).1 * z) ∧ (X.length : Int) = wrap64 ((elemsT H).1 * z) ∧ rightT c D.length = true) := by
        rw [hw.1, hw.2]
        simpa using hl
      simp only [if_neg hcond]
      exact Ev.now _
theorem byte_at {i Z j N : Nat} (hj : j < Z) (hi : i < N) (hN : N * Z ≤ 65536) : wrap64 (wrap64 ((i : Int) * (Z : Int)) + (j : Int)) = ((i * Z + j : Nat) : Int) ∧ wrap64 (((i * Z : Nat) : Int) + (j : Int)) = ((i * Z + j : Nat) : Int) ∧ i * Z + j < N * Z := by
  have a1 : (i + 1) * Z ≤ N * Z := Nat.mul_le_mul_right _ hi
  rw [Nat.add_mul, Nat.one_mul] at a1
  rw [mul_cast]
  generalize i * Z = q at *
  generalize N * Z = n at *
  have e1 : wrap64 ((q : Nat) : Int) = (q : Int) := by unfold wrap64; omega
  rw [e1]
  have e2 : wrap64 ((q : Int) + (j : Int)) = ((q + j : Nat) : Int) := by
    clear e1
    unfold wrap64; omega
  exact ⟨e2, e2, by clear e1 e2; omega⟩
theorem set_get (l : List Int) (n m : Nat) (v : Int) (hn : n < l.length) : (l.set n v).getD m 0 = if n = m then v else l.getD m 0 := by
  simp only [List.getD_eq_getElem?_getD, List.getElem?_set]
  split
  · rename_i h
    subst h
    simp [hn]
  · rfl
theorem laid_set (O ys : List Int) (o j : Nat) (hj : j < ys.length) (hl : o + ys.length ≤ O.length) : (laid O o (ys.take j)).set (o + j) (ys.getD j 0) = laid O o (ys.take (j + 1)) := by
  have t1 : (ys.take j).length = j := by rw [List.length_take]; omega
  have t2 : (ys.take (j + 1)).length = j + 1 := by rw [List.length_take]; omega
  have l1 : (laid O o (ys.take j)).length = O.length := laid_length _ _ _ (by rw [t1]; omega)
  have l2 : (laid O o (ys.take (j + 1))).length = O.length := laid_length _ _ _ (by rw [t2]; omega)
  refine ext_get (by rw [List.length_set, l1, l2]) (fun m hm => ?_)
  rw [set_get _ _ _ _ (by rw [l1]; omega), laid_get _ _ _ _ (by rw [t1]; omega), laid_get _ _ _ _ (by rw [t2]; omega), t1, t2]
  have tk : ∀ n q : Nat, q < n → (ys.take n).getD q 0 = ys.getD q 0 := by
    intro n q h
    simp only [List.getD_eq_getElem?_getD, List.getElem?_take, h, if_true]
  by_cases c1 : o + j = m
  · rw [if_pos c1, if_pos (by omega), tk _ _ (by omega)]
    congr 1
    omega
  · rw [if_neg c1]
    by_cases c2 : o ≤ m ∧ m < o + j
    · rw [if_pos c2, if_pos (by omega), tk _ _ (by omega), tk _ _ (by omega)]
    · rw [if_neg c2, if_neg (by omega)]
theorem laid_nil (O : List Int) (o : Nat) (h : o ≤ O.length) : laid O o [] = O := by
  simp [laid]
theorem paste_inner (D H c : List Int) (Z N M : Nat) (hZ : Z ≤ 256) (X O : List Int) (hX : X.length = N * Z) (hO : O.length = M * Z) (hN : N * Z ≤ 65536) (hM : M * Z ≤ 65536) (p i : Nat) (hp : p < M) (hi : i < N) (l : List (List Int)) {r : List Int × Int}
    (hk : Ev (fun k => slabvaultref13_Paste.l0 k (Z : Int) D H c X (one Z X O (p, i)) l (wrap64 ((i : Int) + 1))) r) : ∀ (d j : Nat), Z - j = d → j ≤ Z →
    Ev (fun k => slabvaultref13_Paste.l1 k (Z : Int) D H c X (laid O (p * Z) (((X.drop (i * Z)).take Z).take j)) l (i : Int) ((p * Z : Nat) : Int) (j : Int)) r := by
  have hbl := block_length (Z := Z) (m := 1) hX (show i + 1 ≤ N from hi)
  rw [Nat.one_mul] at hbl
  have hpl : p * Z + Z ≤ O.length := by
    have a1 : (p + 1) * Z ≤ M * Z := Nat.mul_le_mul_right _ hp
    rw [Nat.add_mul, Nat.one_mul] at a1
    rw [hO]; exact a1
  intro d
  induction d with
  | zero =>
    intro j hd hj
    have hjz : j = Z := by omega
    refine Ev.step (fun k => ?_) hk
    simp only [slabvaultref13_Paste.l1]
    rw [if_neg (by omega), List.take_of_length_le (show ((X.drop (i * Z)).take Z).length ≤ j by omega)]
    rfl
  | succ d ih =>
    intro j hd hj
    have hlt : j < Z := by omega
    have hih := ih (j + 1) (by omega) (by omega)
    have b1 := byte_at hlt hi hN
    have b2 := byte_at hlt hp hM
    have k1 : (j : Int) < (Z : Int) := by
      clear b1 b2
      omega
    have k2 : (0 : Int) ≤ ((i * Z + j : Nat) : Int) := Int.natCast_nonneg _
    have k3 : ((i * Z + j : Nat) : Int) < (X.length : Int) := by rw [hX]; exact Int.ofNat_lt.2 b1.2.2
    have k4 : (0 : Int) ≤ ((p * Z + j : Nat) : Int) := Int.natCast_nonneg _
    have hll : (laid O (p * Z) (((X.drop (i * Z)).take Z).take j)).length = M * Z := by
      rw [laid_length _ _ _ (by rw [List.length_take, hbl]; clear b1 b2; omega), hO]
    have k5 : ((p * Z + j : Nat) : Int) < ((laid O (p * Z) (((X.drop (i * Z)).take Z).take j)).length : Int) := by rw [hll]; exact Int.ofNat_lt.2 b2.2.2
    have k6 : wrap64 ((j : Int) + 1) = ((j + 1 : Nat) : Int) := wrap_up hlt (by clear b1 b2; omega)
    have hrd : rd X ((i * Z + j : Nat) : Int) = ((X.drop (i * Z)).take Z).getD j 0 := by
      rw [block_get hlt]
      unfold rd
      rw [Int.toNat_natCast]
    have hset := laid_set O ((X.drop (i * Z)).take Z) (p * Z) j (by rw [hbl]; exact hlt) (by rw [hbl]; exact hpl)
    refine Ev.step (f := fun k => slabvaultref13_Paste.l1 k (Z : Int) D H c X (laid O (p * Z) (((X.drop (i * Z)).take Z).take (j + 1))) l (i : Int) ((p * Z : Nat) : Int) ((j + 1 : Nat) : Int)) (fun k => ?_) hih
    simp only [slabvaultref13_Paste.l1]
    rw [if_pos k1, b1.1, if_pos k2, if_pos k3, b2.2.1, if_pos k4, if_pos k5, Int.toNat_natCast, hrd, hset, k6]
theorem index_of (F : List Nat) (i : Nat) (hi : i < (lexList F).length) : placeN F (lexList F)[i] = i := by
  have h : lexList F = (lexList F).take i ++ (lexList F)[i] :: (lexList F).drop (i + 1) := by
    rw [← List.drop_eq_getElem_cons hi, List.take_append_drop]
  have := lex_index h
  rw [List.length_take] at this
  omega
theorem paste_ref_round {D H : List Int} {E F C : List Nat} (hD : Ext D E) (hH : Ext H F) (hlF : F.length = E.length) (hF1 : ∀ d, d < F.length → 1 ≤ F.getD d 0) (hlC : C.length = E.length) (Z : Nat) (hZ : 1 ≤ Z ∧ Z ≤ 256) (X O : List Int) (hX : X.length = prodN F * Z) (hO : O.length = prodN E * Z) (hN : prodN F * Z ≤ 65536) (hM : prodN E * Z ≤ 65536)
    (i : Nat) (hlt : i < (lexList F).length) (t : List Nat) (ht : (lexList F)[i] = t) {r : List Int × Int}
    (hk : Ev (fun k => slabvaultref13_Paste.l0 k (Z : Int) D H (ints C) X (if insideB (partN E F C) t = true then one Z X O (placeN E (addN t (startN E F C)), i) else O) ((lexList F).map ints) ((i + 1 : Nat) : Int)) r) :
    Ev (fun k => slabvaultref13_Paste.l0 k (Z : Int) D H (ints C) X O ((lexList F).map ints) i) r := by
  have lm : ((lexList F).map ints).length = (lexList F).length := List.length_map ..
  have hll := lex_length F
  have hpf := hH.prod
  have htm : t ∈ lexList F := by rw [← ht]; exact List.getElem_mem hlt
  have hbox := box_of E F C hlF
  have hw := where_ev E F C t hD.dim hH.dim hF1 hD.len hlF hlC htm
  have k1 : (i : Int) < (((lexList F).map ints).length : Int) := by rw [lm]; exact Int.ofNat_lt.2 hlt
  have k2 : 0 ≤ (i : Int) := Int.natCast_nonneg _
  have hwrap : wrap64 ((i : Int) + 1) = ((i + 1 : Nat) : Int) := wrap_up hlt (by rw [hll]; clear hw hk hX hO hN hM lm k1; omega)
  have hopen : ∀ k, slabvaultref13_Paste.l0 (k + 1) (Z : Int) D H (ints C) X O ((lexList F).map ints) i = (slabvaultref13_where.f k D H (ints C) (ints t)).bind fun b => (if b.2 = true then ((slabvaultref12_Place.f k D b.1).bind fun p => (slabvaultref13_Paste.l1 k (Z : Int) D H (ints C) X O ((lexList F).map ints) i (wrap64 (p * (Z : Int))) 0)) else (slabvaultref13_Paste.l0 k (Z : Int) D H (ints C) X O ((lexList F).map ints) (wrap64 ((i : Int) + 1)))) := by
    intro k
    simp only [slabvaultref13_Paste.l0]
    rw [if_pos k1, if_pos k2, rd_L1_map _ i hlt, ht]
  by_cases c : insideB (partN E F C) t = true
  · rw [if_pos c] at hw hk
    have hin : t ∈ lexList (partN E F C) := by
      rw [← lex_inside F (partN E F C) (hlF.trans hbox.lenP.symm) hbox.shape]
      exact List.mem_filter.2 ⟨htm, c⟩
    have hmem := hbox.mem hin
    have hpl := valid_place E _ hmem.2.1
    have hwp : wrap64 (((placeN E (addN t (startN E F C)) : Nat) : Int) * (Z : Int)) = ((placeN E (addN t (startN E F C)) * Z : Nat) : Int) := by
      rw [mul_cast]
      have a1 : placeN E (addN t (startN E F C)) * Z ≤ prodN E * Z := Nat.mul_le_mul_right _ (Nat.le_of_lt hpl)
      have a2 := Nat.le_trans a1 hM
      generalize placeN E (addN t (startN E F C)) * Z = q at *
      clear a1 hpl hmem hin hopen hwrap hw hk hX hO hN hM lm k1 k2 hll hpf
      unfold wrap64; omega
    have hinner := paste_inner D H (ints C) Z (prodN F) (prodN E) hZ.2 X O hX hO hN hM (placeN E (addN t (startN E F C))) i hpl (by rw [← hll]; exact hlt) ((lexList F).map ints) (by rw [hwrap]; exact hk) Z 0 rfl (Nat.zero_le _)
    rw [List.take_zero, laid_nil _ _ (by rw [hO]; exact Nat.mul_le_mul_right _ (Nat.le_of_lt hpl))] at hinner
    refine Ev.step hopen ?_
    rw [hD.eq, hH.eq] at hinner ⊢
    refine Ev.bind hw ?_
    simp only [if_true]
    refine Ev.bind (refPlace_ev E _ hD.len hmem.2.1 hD.prod) ?_
    rw [hwp]
    exact hinner
  · rw [if_neg c] at hw hk
    refine Ev.step hopen ?_
    rw [hD.eq, hH.eq] at hk ⊢
    refine Ev.bind hw ?_
    simp only [if_neg (show ¬ (false = true) by decide)]
    rw [hwrap]
    exact hk
theorem paste_ref_loop {D H : List Int} {E F C : List Nat} (hD : Ext D E) (hH : Ext H F) (hlF : F.length = E.length) (hF1 : ∀ d, d < F.length → 1 ≤ F.getD d 0) (hlC : C.length = E.length) (Z : Nat) (hZ : 1 ≤ Z ∧ Z ≤ 256) (X : List Int) (hX : X.length = prodN F * Z) (hN : prodN F * Z ≤ 65536) (hM : prodN E * Z ≤ 65536) : ∀ (d i : Nat) (O : List Int), (lexList F).length - i = d → i ≤ (lexList F).length → O.length = prodN E * Z →
    Ev (fun k => slabvaultref13_Paste.l0 k (Z : Int) D H (ints C) X O ((lexList F).map ints) i) (puts Z X O ((((lexList F).drop i).filter (insideB (partN E F C))).map fun t => (placeN E (addN t (startN E F C)), placeN F t)), 0) := by
  have lm : ((lexList F).map ints).length = (lexList F).length := List.length_map ..
  have hbox := box_of E F C hlF
  intro d
  induction d with
  | zero =>
    intro i O hi hil hO
    rw [List.drop_eq_nil_of_le (by omega)]
    refine Ev.step (f := fun _ => some (O, 0)) (fun k => ?_) (Ev.now _)
    simp only [slabvaultref13_Paste.l0]
    rw [if_neg (by rw [lm]; omega)]
  | succ d ih =>
    intro i O hi hil hO
    have hlt : i < (lexList F).length := by omega
    have hidx := index_of F i hlt
    rw [List.drop_eq_getElem_cons hlt, List.filter_cons]
    by_cases c : insideB (partN E F C) (lexList F)[i] = true
    · have hin : (lexList F)[i] ∈ lexList (partN E F C) := by
        rw [← lex_inside F (partN E F C) (hlF.trans hbox.lenP.symm) hbox.shape]
        exact List.mem_filter.2 ⟨List.getElem_mem hlt, c⟩
      have hpl := valid_place E _ (hbox.mem hin).2.1
      have hol := one_length (q := (placeN E (addN (lexList F)[i] (startN E F C)), i)) hX hO hpl (show i < prodN F by rw [← lex_length]; exact hlt)
      have h2 := ih (i + 1) (one Z X O (placeN E (addN (lexList F)[i] (startN E F C)), i)) (by omega) (by omega) hol
      rw [if_pos c, List.map_cons, hidx]
      refine paste_ref_round hD hH hlF hF1 hlC Z hZ X O hX hO hN hM i hlt (lexList F)[i] rfl ?_
      rw [if_pos c]
      exact h2
    · rw [if_neg c]
      refine paste_ref_round hD hH hlF hF1 hlC Z hZ X O hX hO hN hM i hlt (lexList F)[i] rfl ?_
      rw [if_neg c]
      exact ih (i + 1) O (by omega) (by omega) hO
theorem refPaste_ev (Y : List Int) (z : Int) (D H c X : List Int) (lD : D.length ≤ 9223372036854775807) (lH : H.length ≤ 9223372036854775807) (lc : c.length ≤ 9223372036854775807) : Ev (fun k => slabvaultref13_Paste.f k Y z D H c X) (pasteT Y z D H c X) := by
  unfold slabvaultref13_Paste.f pasteT
  refine Ev.bind (bytes_ev Y z D H c X true lD lH lc) ?_
  by_cases he : errT D H c z Y.length X.length true = 0
  case neg =>
    simp only [if_neg he]
    exact Ev.now _
  simp only [if_pos he]
  have ho := okay_of he
  have hl := ho.lenL
  simp only [if_true] at hl
  have hlen : ([] : List Int).length + Y.length < 140737488355328 := by
    have b1 := ho.bigE
    have b2 := ho.lenX
    rw [List.length_nil]
    omega
  simp only [Option.bind_some, if_pos hlen, List.nil_append]
  have ht := tuples_ev (H.map Int.toNat) ho.extH.len ho.extH.dim ho.one ho.extH.prod
  rw [← ho.extH.eq] at ht
  refine Ev.bind ht ?_
  have hbox := box_of (D.map Int.toNat) (H.map Int.toNat) (c.map Int.toNat) ho.lenF
  have hloop := paste_ref_loop ho.extD ho.extH ho.lenF ho.one ho.lenC z.toNat ho.min X hl ho.bigF ho.bigE (lexList (H.map Int.toNat)).length 0 Y rfl (Nat.zero_le _) ho.lenX
  rw [List.drop_zero, lex_inside _ _ (ho.lenF.trans hbox.lenP.symm) hbox.shape, ← ho.size, ← ho.co] at hloop
  exact hloop
end Go.Proofs.Ytjbjofmcmjojlab.Pure
end
section
namespace Go.Proofs.Ytjbjofmcmjojlab.Pure
open Go.RowKit Go.Proofs.Ytjbjofmcmjojlab.Wk Go.Proofs.YtjbjofmcmjojlabW.PrintWords Go.Proofs.YtjbjofmcmjojlabW.PrintLast
def heavyT (X : List Int) (D H L : List Int) : Bool := decide ((X.length : Int) > 10000) || (decide ((L.length : Int) > 10000) || (decide ((elemsT D).1 > 3000) || decide ((elemsT H).1 > 3000)))
theorem wide_ev (D : List Int) (lD : D.length ≤ 9223372036854775807) : Ev (fun k => slabvaultlaw13_wide.f k D) (decide ((elemsT D).1 > 3000)) := by
  unfold slabvaultlaw13_wide.f
  exact Ev.bind (refElements_ev D lD) (Ev.now _)
theorem heavy_ev (X : List Int) (z : Int) (D H c L : List Int) (lD : D.length ≤ 9223372036854775807) (lH : H.length ≤ 9223372036854775807) : Ev (fun k => slabvaultlaw13_heavy.f k X z D H c L) (heavyT X D H L) := by
  unfold slabvaultlaw13_heavy.f heavyT
  by_cases h1 : (X.length : Int) > 10000
  · simp only [if_pos h1, decide_eq_true h1, Bool.true_or]
    exact Ev.now _
  simp only [if_neg h1, decide_eq_false h1, Bool.false_or]
  by_cases h2 : (L.length : Int) > 10000
  · simp only [if_pos h2, decide_eq_true h2, Bool.true_or]
    exact Ev.now _
  simp only [if_neg h2, decide_eq_false h2, Bool.false_or]
  refine Ev.bind (wide_ev D lD) ?_
  by_cases h3 : (elemsT D).1 > 3000
  · simp only [decide_eq_true h3, Bool.true_or, if_true]
    exact Ev.now _
  simp only [decide_eq_false h3, Bool.false_or, if_neg (show ¬ (false = true) by decide)]
  exact Ev.bind (wide_ev H lH) (Ev.now _)
theorem heavy_small {X D H L : List Int} (h : heavyT X D H L = false) : X.length ≤ 10000 ∧ L.length ≤ 10000 := by
  unfold heavyT at h
  simp only [Bool.or_eq_false_iff, decide_eq_false_iff_not] at h
  omega
theorem Ev.both {α β : Type} {f : Nat → Option α} {g : Nat → Option β} {a : α} {b : β} (hf : Ev f a) (hg : Ev g b) : ∃ K, ∀ k, K ≤ k → f k = some a ∧ g k = some b := by
  obtain ⟨K1, h1⟩ := hf
  obtain ⟨K2, h2⟩ := hg
  exact ⟨max K1 K2, fun k hk => ⟨h1 k (by omega), h2 k (by omega)⟩⟩
end Go.Proofs.Ytjbjofmcmjojlab.Pure
end
section
namespace Go.Proofs.Ytjbjofmcmjojlab.Pure
open Go.RowKit Go.Proofs.Ytjbjofmcmjojlab.Wk Go.Proofs.YtjbjofmcmjojlabW.PrintWords Go.Proofs.YtjbjofmcmjojlabW.PrintLast
theorem GridPastes (X : List Int) (z : Int) (D H c L : List Int) (lD : D.length ≤ maxLen) (lH : H.length ≤ maxLen) (lc : c.length ≤ maxLen) :
    ∃ k hv, slabvaultlaw13_heavy.f k X z D H c L = some hv ∧ (hv = false → X.length ≤ 10000 ∧ L.length ≤ 10000 ∧ ∃ r e, grid_Paste.f k X z D H c L = some (r, e) ∧ slabvaultref13_Paste.f k X z D H c L = some (r, e)) := by
  have hm : maxLen = 9223372036854775807 := rfl
  obtain ⟨K1, h1⟩ := Ev.both (paste_ev X z D H c L lH lc) (refPaste_ev X z D H c L (by omega) (by omega) (by omega))
  obtain ⟨K2, h2⟩ := heavy_ev X z D H c L (by omega) (by omega)
  refine ⟨max K1 K2, _, h2 _ (by omega), fun hf => ?_⟩
  have hs := heavy_small hf
  have hk := h1 (max K1 K2) (by omega)
  exact ⟨hs.1, hs.2, (pasteT X z D H c L).1, (pasteT X z D H c L).2, hk.1, hk.2⟩
end Go.Proofs.Ytjbjofmcmjojlab.Pure
end
