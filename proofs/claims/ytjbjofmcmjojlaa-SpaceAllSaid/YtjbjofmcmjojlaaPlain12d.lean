/- A selection that is measured as good can be gone through: what Places and Tuples tell, in closed form. -/
import Derived.Test.YtjbjofmcmjojlaaPlain12c
namespace Go.Proofs.Ytjbjofmcmjojlaa.Pure
open Go.RowKit Go.Proofs.Ytjbjofmcmjojlaa.Wk Go.Proofs.YtjbjofmcmjojlaaW.PrintWords Go.Proofs.YtjbjofmcmjojlaaW.PrintLast Go.Proofs.YtjbjofmcmjojlaaQ

theorem elems_good {l : List Int} (h : (elemsT l).2 = 0) : l.length ≤ 4 ∧ l.any badDim = false ∧ (elemsT l).1 ≤ 1048576 ∧ (((elemsT l).1 = 0 ∧ l.contains 0 = true) ∨ (l.contains 0 = false ∧ (elemsT l).1 = lprod l)) := by
  have hE : elemsT l = if 4 < l.length ∨ l.any badDim = true then (0, 2) else if l.contains 0 = true then (0, 0) else prodLoop l l.length 0 1 := rfl
  by_cases c : 4 < l.length ∨ l.any badDim = true
  · rw [hE, if_pos c] at h
    simp at h
  · rw [if_neg c] at hE
    rw [not_or] at c
    by_cases z : l.contains 0 = true
    · rw [if_pos z] at hE
      rw [hE]
      exact ⟨by omega, by simpa using c.2, by simp, .inl ⟨rfl, z⟩⟩
    · rw [if_neg z] at hE
      rw [hE] at h ⊢
      have h1 := prodLoop_le l l.length 0 1 _ _ (by omega) (Prod.eta (prodLoop l l.length 0 1)).symm
      have h2 := prodLoop_ok l l.length 0 1 (prodLoop l l.length 0 1).1 (by omega) (by omega) (by rw [← h])
      rw [List.drop_zero, Int.one_mul] at h2
      exact ⟨by omega, by simpa using c.2, h1.1, .inr ⟨by simpa using z, h2⟩⟩
theorem pos_mem {l : List Int} (h : ∀ i : Nat, i < l.length → 1 ≤ rd l i) : ∀ x ∈ l, 1 ≤ x := by
  intro x hx
  obtain ⟨i, hi, rfl⟩ := List.getElem_of_mem hx
  rw [← rd_nat l i hi]
  exact h i hi
theorem contains_rd {l : List Int} (h : l.contains 0 = false) (i : Nat) (hi : i < l.length) : rd l i ≠ 0 := by
  rw [rd_nat l i hi]
  intro e
  have h3 : (0 : Int) ∈ l := by rw [← e]; exact List.getElem_mem hi
  rw [List.contains_iff_mem.2 h3] at h
  cases h
theorem ints_nprod (N : List Nat) : lprod (ints N) = nprod N := by
  induction N with
  | nil => rfl
  | cons a N ih =>
    show (a : Int) * lprod (ints N) = _
    rw [ih, nprod_cons]
    simp
theorem selN_one {l0 : List Int} (cnt blk : List Int) (h : ∀ i : Nat, i < l0.length → 0 ≤ rd l0 i) : ints (selN l0 1 cnt blk) = l0 := by
  apply List.ext_getElem
  · simp [ints, selN]
  · intro i h1 h2
    have := h i h2
    rw [rd_nat l0 i h2] at this
    simp [ints, selN, rd, h2]
    omega
theorem selN_zip {l0 cnt blk : List Int} {kind : Int} (hk : kind ≠ 1) (e3 : cnt.length = l0.length) (e4 : blk.length = l0.length) : selN l0 kind cnt blk = List.zipWith (fun a b => (a * b).toNat) cnt blk := by
  apply List.ext_getElem
  · simp [selN, e3, e4]
  · intro i h1 h2
    have hi : i < l0.length := by simpa [selN] using h1
    simp [selN, hk, rd, e3, e4, hi]
theorem nprod_zip : ∀ (a b : List Int), a.length = b.length → (∀ x ∈ a, 0 ≤ x) → (∀ x ∈ b, 0 ≤ x) → (nprod (List.zipWith (fun a b => (a * b).toNat) a b) : Int) = lprod a * lprod b
  | [], [], _, _, _ => by simp [nprod, lprod]
  | x :: a, y :: b, h, h1, h2 => by
    have ih := nprod_zip a b (by simpa using h) (fun z hz => h1 z (by simp [hz])) (fun z hz => h2 z (by simp [hz]))
    have hx := h1 x (by simp)
    have hy := h2 y (by simp)
    have hxy : 0 ≤ x * y := Int.mul_nonneg hx hy
    rw [List.zipWith_cons_cons, nprod_cons, lprod_cons, lprod_cons, Int.natCast_mul, ih, Int.toNat_of_nonneg hxy]
    rw [Int.mul_assoc, Int.mul_assoc, Int.mul_left_comm y]
theorem neg_mem {l : List Int} (h : l.any negDim = false) : ∀ x ∈ l, 0 ≤ x := by
  intro x hx
  have := List.any_eq_false.1 h x hx
  simp [negDim] at this
  omega
theorem any_range' {p : Nat → Bool} {n : Nat} (h : (List.range' 0 n).any p = false) (d : Nat) (hd : d < n) : p d = false := by
  have := List.any_eq_false.1 h d (by simp [List.mem_range']; omega)
  simpa using this

theorem nprod_pos {M : List Nat} (h : ∀ x ∈ M, 1 ≤ x) : 1 ≤ nprod M := by
  induction M with
  | nil => simp [nprod]
  | cons a M ih =>
    rw [nprod_cons]
    exact Nat.le_trans (ih (fun x hx => h x (by simp [hx]))) (Nat.le_mul_of_pos_left _ (h a (by simp)))
theorem getD_le_nprod : ∀ (M : List Nat) (d : Nat), (∀ x ∈ M, 1 ≤ x) → M.getD d 0 ≤ nprod M
  | [], d, _ => by simp
  | a :: M, 0, h => by
    rw [nprod_cons, List.getD_cons_zero]
    exact Nat.le_mul_of_pos_right _ (nprod_pos (fun x hx => h x (by simp [hx])))
  | a :: M, d + 1, h => by
    rw [nprod_cons, List.getD_cons_succ]
    exact Nat.le_trans (getD_le_nprod M d (fun x hx => h x (by simp [hx]))) (Nat.le_mul_of_pos_left _ (h a (by simp)))
/-- What a selection that may be, and selects something, brings along. -/
structure Good (l0 : List Int) (kind : Int) (pts : List (List Int)) (start stride cnt blk : List Int) (n : Int) : Prop where
  ok : SelOk l0 kind start stride cnt blk
  len : ((selTuples l0 kind pts start stride cnt blk).length : Int) = n
  pos : 0 < n
  cap : n ≤ 4096
  within : ∀ x ∈ selTuples l0 kind pts start stride cnt blk, Within l0 x
theorem measured_good {l0 : List Int} {kind : Int} {pts : List (List Int)} {start stride cnt blk : List Int} {n : Int}
    (h : measuredT l0 kind pts start stride cnt blk = (n, 0)) (hn : n ≠ 0) : Good l0 kind pts start stride cnt blk n := by
  unfold measuredT at h
  have he : (elemsT l0).2 = 0 := by
    by_cases c : (elemsT l0).2 = 0
    · exact c
    · rw [if_neg c] at h
      simp only [Prod.mk.injEq] at h
      exact absurd h.2 c
  rw [if_pos he] at h
  obtain ⟨g1, g2, g3, g4⟩ := elems_good he
  have hdim := good_rd g2
  have capE : ∀ m : Int, capT m = (n, 0) → m = n ∧ n ≤ 4096 := by
    intro m hm
    unfold capT at hm
    split at hm
    · simp at hm
    · simp only [Prod.mk.injEq] at hm
      omega
  by_cases k1 : kind = 1
  · subst k1
    rw [if_pos rfl] at h
    obtain ⟨e1, e2⟩ := capE _ h
    rcases g4 with g4 | ⟨g4, g5⟩
    · omega
    · have hd1 : ∀ d : Nat, d < l0.length → 1 ≤ rd l0 d := fun d hd => by have := hdim d hd; have := contains_rd g4 d hd; omega
      have hNl := selN_length l0 1 cnt blk
      have hN := selN_one cnt blk (fun d hd => (hdim d hd).1)
      have hp : ((selTuples l0 1 pts start stride cnt blk).length : Int) = n := by
        unfold selTuples
        rw [if_neg (by omega), List.length_map, lex_length, ← ints_nprod, hN, ← g5, e1]
      refine ⟨.inr ⟨g1, .inl ⟨rfl, fun d hd => ⟨hd1 d hd, (hdim d hd).2⟩⟩⟩, hp, by omega, e2, fun x hx => ?_⟩
      unfold selTuples at hx
      rw [if_neg (by omega), List.mem_map] at hx
      obtain ⟨s, hs, rfl⟩ := hx
      obtain ⟨s1, s2⟩ := lex_mem _ s hs
      refine ⟨by rw [tupAt_length, s1, hNl], fun d hd => ?_⟩
      have h7 := s2 d (by omega)
      rw [selN_getD _ _ _ _ _ hd, if_pos rfl] at h7
      rw [tupAt_rd _ _ _ (by omega)]
      have := hd1 d hd
      simp only [selAv, if_true]
      omega
  · rw [if_neg k1] at h
    by_cases k2 : kind = 2 ∧ pts.all (rightOne l0.length) = true
    · rw [if_pos k2] at h
      obtain ⟨rfl, hr⟩ := k2
      by_cases ho : outT l0 pts = true
      · rw [if_pos ho] at h
        simp at h
      · rw [if_neg ho] at h
        obtain ⟨e1, e2⟩ := capE _ h
        have ho : outT l0 pts = false := by simpa using ho
        refine ⟨.inl rfl, by unfold selTuples; rw [if_pos rfl]; exact e1, by omega, e2, fun x hx => ?_⟩
        unfold selTuples at hx
        rw [if_pos rfl] at hx
        obtain ⟨r1, r2⟩ := right_nonneg (List.all_eq_true.1 hr x hx)
        refine ⟨r1, fun d hd => ⟨neg_rd r2 d (by omega), ?_⟩⟩
        have h8 := List.any_eq_false.1 ho x hx
        have h9 : outAt l0 x 0 = false := by simpa using h8
        unfold outAt at h9
        have := any_range' h9 d (by omega)
        simpa using this
    · rw [if_neg k2] at h
      by_cases k3 : kind = 3 ∧ slabR l0.length start stride cnt blk = true
      · rw [if_pos k3] at h
        obtain ⟨rfl, hs⟩ := k3
        unfold slabR at hs
        simp only [List.all_cons, List.all_nil, Bool.and_true, Bool.and_eq_true] at hs
        obtain ⟨r1, r2, r3, r4⟩ := hs
        obtain ⟨e1, n1⟩ := right_nonneg r1
        obtain ⟨e2, n2⟩ := right_nonneg r2
        obtain ⟨e3, n3⟩ := right_nonneg r3
        obtain ⟨e4, n4⟩ := right_nonneg r4
        by_cases hb : manyT (cnt ++ blk) > 0 ∧ beyondAt l0 start stride cnt blk 0 = true
        · rw [if_pos hb] at h
          simp at h
        · rw [if_neg hb] at h
          obtain ⟨m1, m2⟩ := capE _ h
          have hz : (cnt ++ blk).contains 0 = false := by
            cases z : (cnt ++ blk).contains 0 with
            | false => rfl
            | true => unfold manyT at m1; rw [if_pos z] at m1; omega
          have hneg : (cnt ++ blk).any negDim = false := by rw [List.any_append, n3, n4]; rfl
          have hpos : ∀ i : Nat, i < (cnt ++ blk).length → 1 ≤ rd (cnt ++ blk) i := fun i hi => pos_rd hneg hz i hi
          have hpm := pos_mem hpos
          have hc1 : ∀ d : Nat, d < l0.length → 1 ≤ rd cnt d := fun d hd => by rw [rd_nat cnt d (by omega)]; exact hpm _ (List.mem_append_left _ (List.getElem_mem _))
          have hb1 : ∀ d : Nat, d < l0.length → 1 ≤ rd blk d := fun d hd => by rw [rd_nat blk d (by omega)]; exact hpm _ (List.mem_append_right _ (List.getElem_mem _))
          have hmany : manyT (cnt ++ blk) = lprod cnt * lprod blk := by
            have hz' : ¬ (cnt ++ blk).contains 0 = true := by rw [hz]; simp
            unfold manyT at m1 ⊢
            rw [if_neg hz'] at m1 ⊢
            have := manyLoop_ok (cnt ++ blk) (cnt ++ blk).length 0 1 (by omega) (by omega) (by omega)
            rw [List.drop_zero, Int.one_mul, lprod_append] at this
            exact this
          have hmpos : 0 < manyT (cnt ++ blk) := by
            rw [hmany]
            have a1 := lprod_pos (fun x hx => hpm x (List.mem_append_left _ hx))
            have a2 := lprod_pos (fun x hx => hpm x (List.mem_append_right _ hx))
            have : 1 * 1 ≤ lprod cnt * lprod blk := Int.mul_le_mul a1 a2 (by omega) (by omega)
            omega
          have hbey : beyondAt l0 start stride cnt blk 0 = false := by
            cases z : beyondAt l0 start stride cnt blk 0 with
            | false => rfl
            | true => exact absurd ⟨hmpos, z⟩ hb
          have hN : selN l0 3 cnt blk = List.zipWith (fun a b => (a * b).toNat) cnt blk := selN_zip (by omega) e3 e4
          have hNp : (nprod (selN l0 3 cnt blk) : Int) = n := by
            rw [hN, nprod_zip cnt blk (by omega) (neg_mem n3) (neg_mem n4), ← hmany, m1]
          -- each dimension's share is at most the whole
          have hshare : ∀ d : Nat, d < l0.length → rd cnt d * rd blk d ≤ 4096 := by
            intro d hd
            have h7 := selN_getD l0 3 cnt blk d hd
            rw [if_neg (by omega)] at h7
            have h8 : 1 * 1 ≤ rd cnt d * rd blk d := Int.mul_le_mul (hc1 d hd) (hb1 d hd) (by omega) (by have := hc1 d hd; omega)
            have hall : ∀ x ∈ selN l0 3 cnt blk, 1 ≤ x := by
              intro x hx
              obtain ⟨i, hi, rfl⟩ := List.getElem_of_mem hx
              have hi' : i < l0.length := by simpa [selN] using hi
              have h10 := selN_getD l0 3 cnt blk i hi'
              rw [if_neg (by omega)] at h10
              have h11 : 1 * 1 ≤ rd cnt i * rd blk i := Int.mul_le_mul (hc1 i hi') (hb1 i hi') (by omega) (by have := hc1 i hi'; omega)
              have h12 : (selN l0 3 cnt blk).getD i 0 = (selN l0 3 cnt blk)[i] := by simp [List.getD_eq_getElem?_getD, hi]
              omega
            have h9 := getD_le_nprod (selN l0 3 cnt blk) d hall
            omega
          have hlast : ∀ d : Nat, d < l0.length → 0 ≤ rd start d ∧ 0 ≤ rd stride d ∧ rd start d + (rd cnt d - 1) * rd stride d + rd blk d ≤ rd l0 d := by
            intro d hd
            have hst := neg_rd n1 d (by omega)
            have hsr := neg_rd n2 d (by omega)
            refine ⟨hst, hsr, ?_⟩
            unfold beyondAt at hbey
            have h7 := any_range' hbey d (by omega)
            unfold beyondT at h7
            rw [Bool.or_eq_false_iff, decide_eq_false_iff_not] at h7
            obtain ⟨h7, h8⟩ := h7
            by_cases hz0 : 0 < rd stride d
            · rw [decide_eq_true hz0, Bool.true_and, decide_eq_false_iff_not] at h8
              have h9 : rd cnt d - 1 ≤ (rd l0 d - rd start d - rd blk d) / rd stride d := by omega
              have h10 := (Int.le_ediv_iff_mul_le hz0).1 h9
              omega
            · have : rd stride d = 0 := by omega
              rw [this, Int.mul_zero]
              omega
          refine ⟨.inr ⟨g1, .inr ⟨by omega, e1, e2, e3, e4, fun d hd => ⟨hc1 d hd, hb1 d hd, hshare d hd, (hlast d hd).1, (hlast d hd).2.1, by have := (hlast d hd).2.2; have := (hdim d hd).2; omega⟩⟩⟩, ?_, by omega, m2, fun x hx => ?_⟩
          · unfold selTuples
            rw [if_neg (by omega), List.length_map, lex_length]
            exact hNp
          · unfold selTuples at hx
            rw [if_neg (by omega), List.mem_map] at hx
            obtain ⟨s, hs, rfl⟩ := hx
            obtain ⟨s1, s2⟩ := lex_mem _ s hs
            have hNl := selN_length l0 3 cnt blk
            refine ⟨by rw [tupAt_length, s1, hNl], fun d hd => ?_⟩
            have h7 := s2 d (by omega)
            rw [selN_getD _ _ _ _ _ hd, if_neg (by omega)] at h7
            rw [tupAt_rd _ _ _ (by omega)]
            generalize s.getD d 0 = k at h7
            obtain ⟨l1, l2, l3⟩ := hlast d hd
            have c1 := hc1 d hd
            have b1 := hb1 d hd
            unfold selAv
            rw [if_neg (by omega)]
            have hq0 : 0 ≤ (k : Int) / rd blk d := Int.ediv_nonneg (by omega) (by omega)
            have hm0 : 0 ≤ (k : Int) % rd blk d := Int.emod_nonneg _ (by omega)
            have hm1 : (k : Int) % rd blk d < rd blk d := Int.emod_lt_of_pos _ (by omega)
            have hq1 : (k : Int) / rd blk d < rd cnt d := by
              rw [Int.ediv_lt_iff_lt_mul (by omega)]
              omega
            have hp0 : 0 ≤ (k : Int) / rd blk d * rd stride d := Int.mul_nonneg hq0 l2
            have hp1 : (k : Int) / rd blk d * rd stride d ≤ (rd cnt d - 1) * rd stride d := Int.mul_le_mul_of_nonneg_right (by omega) l2
            omega
      · rw [if_neg k3] at h
        simp at h
def placesT (l0 : List Int) (kind : Int) (pts : List (List Int)) (start stride cnt blk : List Int) : List Int × Int :=
  if (measuredT l0 kind pts start stride cnt blk).2 = 0 then (if (measuredT l0 kind pts start stride cnt blk).1 = 0 then ([], 0) else ((selTuples l0 kind pts start stride cnt blk).map (placeOf l0), 0))
  else ([], (measuredT l0 kind pts start stride cnt blk).2)
theorem places_ev (l0 : List Int) (kind : Int) (pts : List (List Int)) (start stride cnt blk : List Int) (h0 : Fit l0) (h1 : pts.length ≤ 9223372036854775807) (h1' : ∀ x ∈ pts, x.length ≤ 9223372036854775807)
    (h2 : Fit start) (h3 : Fit stride) (h4 : Fit cnt) (h5 : Fit blk) : Ev (fun k => space_Places.f k l0 kind pts start stride cnt blk) (placesT l0 kind pts start stride cnt blk) := by
  unfold space_Places.f
  refine Ev.bind (measured_ev l0 kind pts start stride cnt blk h0 h1 h1' h2 h3 h4 h5) ?_
  unfold placesT
  by_cases c : (measuredT l0 kind pts start stride cnt blk).2 = 0
  · by_cases d : (measuredT l0 kind pts start stride cnt blk).1 = 0
    · simp only [if_pos c, if_pos d]
      exact Ev.now _
    · have g := measured_good (n := (measuredT l0 kind pts start stride cnt blk).1) (by rw [← c]) d
      simp only [if_pos c, if_neg d]
      rw [if_pos ⟨g.ok, by have := g.len; have := g.cap; omega, fun x hx => by have := (g.within x hx).1; omega, by have := g.pos; omega, g.cap⟩]
      exact Ev.now _
  · simp only [if_neg c]
    exact Ev.now _

theorem lawInts_l0 (a b : List Int) (hm : a.length ≤ 9223372036854775807) (hl : a.length = b.length) : ∀ (d i : Nat), a.length - i = d → i ≤ a.length → Ev (fun k => slabvaultlaw12_ints.l0 k a b i) (decide (a.drop i = b.drop i)) := by
  intro d
  induction d with
  | zero =>
    intro i h hi
    rw [List.drop_eq_nil_of_le (by omega), List.drop_eq_nil_of_le (by omega)]
    refine Ev.step (f := fun _ => some true) (fun k => ?_) (Ev.now _)
    simp only [slabvaultlaw12_ints.l0]
    rw [if_neg (by omega)]
  | succ d ih =>
    intro i h hi
    have hlt : i < a.length := by omega
    rw [drop_rd a i hlt, drop_rd b i (by omega)]
    by_cases c : rd a i = rd b i
    · refine Ev.step (f := fun k => slabvaultlaw12_ints.l0 k a b ((i + 1 : Nat) : Int)) (fun k => ?_) (by rw [c]; simpa using ih (i + 1) (by omega) (by omega))
      simp only [slabvaultlaw12_ints.l0]
      rw [if_pos (by omega), if_pos (by omega), if_pos (by omega), if_pos c, wrap_up hlt hm]
    · refine Ev.step (f := fun _ => some false) (fun k => ?_) (by rw [show decide (rd a i :: a.drop (i + 1) = rd b i :: b.drop (i + 1)) = false by simp [c]]; exact Ev.now _)
      simp only [slabvaultlaw12_ints.l0]
      rw [if_pos (by omega), if_pos (by omega), if_pos (by omega), if_neg c]
theorem lawInts_ev (a b : List Int) (hm : a.length ≤ 9223372036854775807) : Ev (fun k => slabvaultlaw12_ints.f k a b) (decide (a = b)) := by
  by_cases hl : a.length = b.length
  · refine Ev.congr (f := fun k => slabvaultlaw12_ints.l0 k a b ((0 : Nat) : Int)) (fun k => ?_) (by simpa using lawInts_l0 a b hm hl a.length 0 (by omega) (by omega))
    unfold slabvaultlaw12_ints.f
    rw [if_pos (by omega)]
    rfl
  · refine Ev.congr (f := fun _ => some false) (fun k => ?_) (by rw [show decide (a = b) = false by simp; intro e; exact hl (by rw [e])]; exact Ev.now _)
    unfold slabvaultlaw12_ints.f
    rw [if_neg (by omega)]
end Go.Proofs.Ytjbjofmcmjojlaa.Pure
