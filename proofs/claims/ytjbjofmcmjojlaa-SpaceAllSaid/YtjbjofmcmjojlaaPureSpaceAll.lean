/- All elements are the hyperslab from 0 on by steps of 1, and that of one block: for every slice of whole numbers. No condition. -/
import Derived.Test.YtjbjofmcmjojlaaPlain12d
import Derived.Test.YtjbjofmcmjojlaaWk32
namespace Go.Proofs.Ytjbjofmcmjojlaa.Pure
open Go.RowKit Go.Proofs.Ytjbjofmcmjojlaa.Wk Go.Proofs.YtjbjofmcmjojlaaW.PrintWords Go.Proofs.YtjbjofmcmjojlaaW.PrintLast Go.Proofs.YtjbjofmcmjojlaaQ

theorem elems_bad {l : List Int} (h : (elemsT l).2 ≠ 0) : (elemsT l).1 = 0 := by
  have hE : elemsT l = if 4 < l.length ∨ l.any badDim = true then (0, 2) else if l.contains 0 = true then (0, 0) else prodLoop l l.length 0 1 := rfl
  rw [hE] at h ⊢
  split
  · rfl
  · split
    · rfl
    · rename_i c z
      rw [if_neg c, if_neg z] at h
      have : ∀ (d i : Nat) (n : Int), (prodLoop l d i n).2 ≠ 0 → (prodLoop l d i n).1 = 0 := by
        intro d
        induction d with
        | zero => intro i n h; simp [prodLoop] at h
        | succ d ih =>
          intro i n h
          simp only [prodLoop] at h ⊢
          split
          · rfl
          · rename_i c2
            rw [if_neg c2] at h
            exact ih _ _ h
      exact this _ _ _ h
theorem manyLoop_of (l : List Int) (hp : ∀ i : Nat, i < l.length → 1 ≤ rd l i) : ∀ (d i : Nat) (n : Int), l.length - i = d → i ≤ l.length → 1 ≤ n → n * lprod (l.drop i) ≤ 4096 → manyLoop l d i n = n * lprod (l.drop i)
  | 0, i, n, h, hi, hn, hb => by
    rw [List.drop_eq_nil_of_le (by omega)]
    simp [lprod, manyLoop]
  | d + 1, i, n, h, hi, hn, hb => by
    have hx := hp i (by omega)
    rw [drop_rd l i (by omega), lprod_cons, ← Int.mul_assoc] at hb ⊢
    have hP : 1 ≤ lprod (l.drop (i + 1)) := lprod_pos (fun y hy => by
      obtain ⟨j, hj, rfl⟩ := List.getElem_of_mem (List.mem_of_mem_drop hy)
      rw [← rd_nat l j hj]
      exact hp j hj)
    have h1 : 1 * 1 ≤ n * rd l i := Int.mul_le_mul hn hx (by omega) (by omega)
    have h2 : n * rd l i * 1 ≤ n * rd l i * lprod (l.drop (i + 1)) := Int.mul_le_mul_of_nonneg_left hP (by omega)
    simp only [manyLoop]
    have h3 : ¬ rd l i > 4096 / n := by
      have : rd l i ≤ 4096 / n := (Int.le_ediv_iff_mul_le (by omega)).2 (by rw [Int.mul_comm]; omega)
      omega
    rw [if_neg h3]
    exact manyLoop_of l hp d (i + 1) _ (by omega) (by omega) (by omega) hb
theorem rd_rep (n : Nat) (a : Int) (d : Nat) (h : d < n) : rd (List.replicate n a) d = a := by simp [rd, h]
theorem neg_rep (n : Nat) {a : Int} (h : 0 ≤ a) : (List.replicate n a).any negDim = false := by
  rw [List.any_eq_false]
  intro x hx
  rw [List.eq_of_mem_replicate hx]
  simp [negDim]
  omega
theorem neg_good {l : List Int} (h : l.any badDim = false) : l.any negDim = false := by
  rw [List.any_eq_false] at h ⊢
  intro x hx
  have := h x hx
  simp [badDim, negDim] at this ⊢
  omega
theorem rightOne_mk {r : Nat} {l : List Int} (h : l.length = r) (hn : l.any negDim = false) : rightOne r l = true := by
  unfold rightOne
  rw [hn, h]
  simp
theorem lprod_ones (n : Nat) : lprod (List.replicate n 1) = 1 := by
  induction n with
  | zero => rfl
  | succ n ih => rw [List.replicate_succ, lprod_cons, ih]; rfl
theorem range'_any_false {p : Nat → Bool} {n : Nat} (h : ∀ d, d < n → p d = false) : (List.range' 0 n).any p = false := by
  rw [List.any_eq_false]
  intro d hd
  simp [List.mem_range'] at hd
  simp [h d (by omega)]
/-- The two slabs of all elements are measured as all elements are. -/
theorem slab_measured (l0 : List Int) (stride cnt blk : List Int) (he : (elemsT l0).2 = 0) (h4 : (elemsT l0).1 ≤ 4096)
    (hs : stride.length = l0.length ∧ stride.any negDim = false) (hc : cnt.length = l0.length ∧ cnt.any negDim = false) (hb : blk.length = l0.length ∧ blk.any negDim = false)
    (hz : l0.contains 0 = true → (cnt ++ blk).contains 0 = true) (hp : l0.contains 0 = false → (∀ d : Nat, d < l0.length → 1 ≤ rd cnt d ∧ 1 ≤ rd blk d ∧ rd cnt d * rd blk d = rd l0 d ∧ (0 < rd stride d → rd blk d = 1 ∧ rd stride d = 1)) ∧ lprod cnt * lprod blk = lprod l0) :
    measuredT l0 3 [] (List.replicate l0.length 0) stride cnt blk = ((elemsT l0).1, 0) := by
  obtain ⟨g1, g2, g3, g4⟩ := elems_good he
  have hsl : slabR l0.length (List.replicate l0.length 0) stride cnt blk = true := by
    unfold slabR
    simp only [List.all_cons, List.all_nil, Bool.and_true, Bool.and_eq_true]
    exact ⟨rightOne_mk (by simp) (neg_rep _ (by omega)), rightOne_mk hs.1 hs.2, rightOne_mk hc.1 hc.2, rightOne_mk hb.1 hb.2⟩
  unfold measuredT
  rw [if_pos he, if_neg (by omega), if_neg (by omega), if_pos ⟨rfl, hsl⟩]
  rcases g4 with ⟨e0, z⟩ | ⟨z, e0⟩
  · have hm : manyT (cnt ++ blk) = 0 := by unfold manyT; rw [if_pos (hz z)]
    rw [hm, if_neg (by omega), e0]
    rfl
  · obtain ⟨q1, q2⟩ := hp z
    have hpos : ∀ i : Nat, i < (cnt ++ blk).length → 1 ≤ rd (cnt ++ blk) i := by
      intro i hi
      rw [rd_nat _ i hi]
      by_cases hlt : i < cnt.length
      · rw [List.getElem_append_left hlt, ← rd_nat cnt i hlt]
        exact (q1 i (by omega)).1
      · rw [List.getElem_append_right (by omega), ← rd_nat blk (i - cnt.length) (by rw [List.length_append] at hi; omega)]
        exact (q1 (i - cnt.length) (by rw [List.length_append] at hi; omega)).2.1
    have hn0 : (cnt ++ blk).contains 0 = false := by
      cases h : (cnt ++ blk).contains 0 with
      | false => rfl
      | true =>
        have h1 := pos_mem hpos 0 (List.contains_iff_mem.1 h)
        omega
    have hm : manyT (cnt ++ blk) = (elemsT l0).1 := by
      unfold manyT
      rw [hn0, if_neg (by simp)]
      have h5 : (1 : Int) * lprod ((cnt ++ blk).drop 0) = (elemsT l0).1 := by rw [List.drop_zero, Int.one_mul, lprod_append, q2, e0]
      have := manyLoop_of (cnt ++ blk) hpos (cnt ++ blk).length 0 1 (by omega) (by omega) (by omega) (by omega)
      omega
    have hbey : beyondAt l0 (List.replicate l0.length 0) stride cnt blk 0 = false := by
      unfold beyondAt
      refine range'_any_false (fun d hd => ?_)
      obtain ⟨a1, a2, a3, a4⟩ := q1 d (by omega)
      rw [rd_rep _ _ _ (by omega)]
      have hle : 1 * rd blk d ≤ rd cnt d * rd blk d := Int.mul_le_mul_of_nonneg_right a1 (by omega)
      unfold beyondT
      rw [decide_eq_false (by omega), Bool.false_or]
      by_cases c : 0 < rd stride d
      · obtain ⟨a5, a6⟩ := a4 c
        rw [a5] at a3 ⊢
        rw [a6]
        have h7 : ¬ (rd cnt d - 1 > (rd l0 d - 0 - 1) / 1) := by rw [Int.ediv_one]; omega
        rw [decide_eq_false h7, Bool.and_false]
      · rw [decide_eq_false c, Bool.false_and]
    rw [hm, hbey, if_neg (by simp)]
    unfold capT
    rw [if_neg (by omega)]
/-- Where each number of a tuple is its index, the places are all numbers in their order. -/
theorem places_all (l0 : List Int) (kind : Int) (start stride cnt blk : List Int) (h2 : kind ≠ 2) (hd : ∀ d : Nat, d < l0.length → 1 ≤ rd l0 d) (hL : lprod l0 ≤ 1048576)
    (hN : ∀ d : Nat, d < l0.length → (selN l0 kind cnt blk).getD d 0 = (rd l0 d).toNat) (hav : ∀ d k : Nat, d < l0.length → (k : Int) < rd l0 d → selAv kind start stride blk d k = k) :
    (selTuples l0 kind [] start stride cnt blk).map (placeOf l0) = ints (List.range (lprod l0).toNat) := by
  have hNl := selN_length l0 kind cnt blk
  have hI : ints (selN l0 kind cnt blk) = l0 := by
    apply List.ext_getElem
    · simp [ints, hNl]
    · intro i h1 h3
      have h5 := hN i h3
      have h6 := hd i h3
      rw [rd_nat l0 i h3] at h5 h6
      have h7 : (selN l0 kind cnt blk).getD i 0 = (selN l0 kind cnt blk)[i]'(by omega) := by simp [List.getD_eq_getElem?_getD, hNl, h3]
      rw [h7] at h5
      simp only [ints, List.getElem_map]
      rw [h5]
      exact Int.toNat_of_nonneg (by omega)
  have hP : (lprod l0).toNat = nprod (selN l0 kind cnt blk) := by
    have := ints_nprod (selN l0 kind cnt blk)
    rw [hI] at this
    omega
  unfold selTuples
  rw [if_neg h2, hP, ← lex_horn, ints, List.map_map, List.map_map]
  apply List.map_congr_left
  intro s hs
  obtain ⟨s1, s2⟩ := lex_mem _ s hs
  have ht : tupAt (selAv kind start stride blk) s = ints s := by
    apply List.ext_getElem
    · simp [tupAt, ints]
    · intro i h1 h3
      have hi : i < l0.length := by rw [tupAt_length] at h1; omega
      have h5 := s2 i (by omega)
      rw [hN i hi] at h5
      have h6 := hd i hi
      rw [← rd_nat _ i h1, tupAt_rd _ _ _ (by omega), hav i _ hi (by omega)]
      simp [ints, List.getD_eq_getElem?_getD, show i < s.length by omega]
  have hw : Within l0 (ints s) := by
    refine ⟨by simp [ints]; omega, fun d hdl => ?_⟩
    have h5 := s2 d (by omega)
    rw [hN d hdl] at h5
    have h6 := hd d hdl
    rw [rd_nat _ d (by simp [ints]; omega)]
    have h7 : s.getD d 0 = s[d]'(by omega) := by simp [List.getD_eq_getElem?_getD, show d < s.length by omega]
    simp only [ints, List.getElem_map]
    rw [h7] at h5
    show 0 ≤ (s[d]'(by omega) : Int) ∧ (s[d]'(by omega) : Int) < _
    omega
  show placeOf l0 (tupAt _ s) = (hornN (selN l0 kind cnt blk) s : Int)
  rw [ht, place_eq l0 (ints s) hw (pos_mem hd) hL, ← horn_ints, hI]
theorem fit_wf {l : List Int} (hm : l.length ≤ maxLen) (h : ∀ x ∈ l, (Lit.int .i64 x).wf = true) : Fit l := by
  refine ⟨hm, fun x hx => ?_⟩
  have := h x hx
  simpa [Lit.wf, IntKind.min, IntKind.max, IntKind.signed, IntKind.bits] using this
def upTo (n : Int) : List Int := ints (List.range n.toNat)
/-- A selection of all elements, each at its own place. -/
theorem places_law (l0 : List Int) (kind : Int) (start stride cnt blk : List Int) (h2 : kind ≠ 2) (he : (elemsT l0).2 = 0)
    (hM : measuredT l0 kind [] start stride cnt blk = ((elemsT l0).1, 0))
    (hN : l0.contains 0 = false → ∀ d : Nat, d < l0.length → (selN l0 kind cnt blk).getD d 0 = (rd l0 d).toNat)
    (hav : l0.contains 0 = false → ∀ d k : Nat, d < l0.length → (k : Int) < rd l0 d → selAv kind start stride blk d k = k) :
    placesT l0 kind [] start stride cnt blk = (upTo (elemsT l0).1, 0) := by
  obtain ⟨g1, g2, g3, g4⟩ := elems_good he
  unfold placesT
  rw [hM]
  rcases g4 with ⟨e0, z⟩ | ⟨z, e0⟩
  · simp [e0, upTo, ints]
  · have hd : ∀ d : Nat, d < l0.length → 1 ≤ rd l0 d := fun d hd => by have := (good_rd g2 d hd).1; have := contains_rd z d hd; omega
    have hL := lprod_pos (pos_mem hd)
    simp only [if_true]
    rw [if_neg (by omega), places_all l0 kind start stride cnt blk h2 hd (by omega) (hN z) (hav z), e0]
    rfl
theorem upTo_length {n : Int} (h : 0 ≤ n) : ((upTo n).length : Int) = n := by
  simp [upTo, ints]
  omega
theorem elems_nonneg {l0 : List Int} (he : (elemsT l0).2 = 0) : 0 ≤ (elemsT l0).1 := by
  obtain ⟨g1, g2, g3, g4⟩ := elems_good he
  rcases g4 with ⟨e0, z⟩ | ⟨z, e0⟩
  · omega
  · have := lprod_pos (pos_mem (l := l0) (fun d hd => by have := (good_rd g2 d hd).1; have := contains_rd z d hd; omega))
    omega
theorem all_l1 (n : Int) (h0 : 0 ≤ n) (h1 : n ≤ 9223372036854775807) : ∀ (d i : Nat), n.toNat - i = d → i ≤ n.toNat → Ev (fun k => slabvaultlaw12_SpaceAll.l1 k n (upTo n) i) true := by
  intro d
  induction d with
  | zero =>
    intro i h hi
    refine Ev.step (f := fun k => (slabvaultlaw12_lives.f k).bind fun t341 => (some t341)) (fun k => ?_) (Ev.bind lives_ev (Ev.now true))
    simp only [slabvaultlaw12_SpaceAll.l1]
    rw [if_neg (by omega)]
  | succ d ih =>
    intro i h hi
    have hl := upTo_length h0
    have hlt : i < (upTo n).length := by omega
    refine Ev.step (f := fun k => slabvaultlaw12_SpaceAll.l1 k n (upTo n) ((i + 1 : Nat) : Int)) (fun k => ?_) (ih (i + 1) (by omega) (by omega))
    simp only [slabvaultlaw12_SpaceAll.l1]
    rw [if_pos (by omega), if_pos (by omega), if_pos (by omega), rd_nat _ i hlt, if_pos (by simp [upTo, ints]), wrap_up hlt (by omega)]
theorem all_j1 (n : Int) (h0 : 0 ≤ n) (h1 : n ≤ 9223372036854775807) : Ev (fun k => slabvaultlaw12_SpaceAll.j1 k n (upTo n) false) true := by
  refine Ev.step (f := fun k => slabvaultlaw12_SpaceAll.l1 k n (upTo n) ((0 : Nat) : Int)) (fun k => ?_) (all_l1 n h0 h1 n.toNat 0 (by omega) (by omega))
  simp only [slabvaultlaw12_SpaceAll.j1]
  rfl
theorem set_mid (n i : Nat) (h : i < n) : (List.replicate i (1 : Int) ++ List.replicate (n - i) 0).set i 1 = List.replicate (i + 1) 1 ++ List.replicate (n - (i + 1)) 0 := by
  rw [List.set_append_right _ _ (by simp), List.length_replicate, Nat.sub_self, show n - i = (n - (i + 1)) + 1 by omega, List.replicate_succ, List.set_cons_zero, List.replicate_succ']
  simp
theorem all_l0 (l0 : List Int) (n : Int) (hm : l0.length ≤ 9223372036854775807) (hf : Fit l0) (hn : (elemsT l0).1 = n) (h0 : 0 ≤ n) (h1 : n ≤ 9223372036854775807)
    (hA : placesT l0 3 [] (List.replicate l0.length 0) (List.replicate l0.length 1) l0 (List.replicate l0.length 1) = (upTo n, 0))
    (hB : placesT l0 3 [] (List.replicate l0.length 0) (List.replicate l0.length 0) (List.replicate l0.length 1) l0 = (upTo n, 0)) : ∀ (d i : Nat), l0.length - i = d → i ≤ l0.length →
    Ev (fun k => slabvaultlaw12_SpaceAll.l0 k l0 n (upTo n) 0 (List.replicate l0.length 0) (List.replicate i 1 ++ List.replicate (l0.length - i) 0) i) true := by
  intro d
  induction d with
  | zero =>
    intro i h hi
    have hi : i = l0.length := by omega
    subst hi
    rw [Nat.sub_self, List.replicate_zero, List.append_nil]
    have fr : ∀ a : Int, -9223372036854775808 ≤ a ∧ a ≤ 9223372036854775807 → Fit (List.replicate l0.length a) := fun a ha => ⟨by simpa using hm, fun x hx => by rw [List.eq_of_mem_replicate hx]; exact ha⟩
    have pA := places_ev l0 3 [] (List.replicate l0.length 0) (List.replicate l0.length 1) l0 (List.replicate l0.length 1) hf (by simp) (by simp) (fr 0 (by omega)) (fr 1 (by omega)) hf (fr 1 (by omega))
    have pB := places_ev l0 3 [] (List.replicate l0.length 0) (List.replicate l0.length 0) (List.replicate l0.length 1) l0 hf (by simp) (by simp) (fr 0 (by omega)) (fr 0 (by omega)) (fr 1 (by omega)) hf
    rw [hA] at pA
    rw [hB] at pB
    have hl := upTo_length h0
    have pI := lawInts_ev (upTo n) (upTo n) (by omega)
    rw [decide_eq_true rfl] at pI
    have pJ := all_j1 n h0 h1
    obtain ⟨ka, pA⟩ := pA
    obtain ⟨kb, pB⟩ := pB
    obtain ⟨kc, pI⟩ := pI
    obtain ⟨kd, pJ⟩ := pJ
    refine ⟨max (max ka kb) (max kc kd) + 1, fun m hk => ?_⟩
    obtain ⟨k, rfl⟩ : ∃ k, m = k + 1 := ⟨m - 1, by omega⟩
    have qA := pA k (by omega)
    have qB := pB k (by omega)
    have qI := pI k (by omega)
    have qJ := pJ k (by omega)
    simp only [] at qA qB qI qJ
    simp only [slabvaultlaw12_SpaceAll.l0]
    rw [if_neg (by omega), qA, Option.bind_some, qB, Option.bind_some]
    simp only [if_true]
    rw [if_pos hl, qI, Option.bind_some, if_pos rfl, Option.bind_some]
    exact qJ
  | succ d ih =>
    intro i h hi
    have hlt : i < l0.length := by omega
    refine Ev.step (f := fun k => slabvaultlaw12_SpaceAll.l0 k l0 n (upTo n) 0 (List.replicate l0.length 0) (List.replicate (i + 1) 1 ++ List.replicate (l0.length - (i + 1)) 0) ((i + 1 : Nat) : Int)) (fun k => ?_) (ih (i + 1) (by omega) (by omega))
    simp only [slabvaultlaw12_SpaceAll.l0]
    rw [if_pos (by omega), if_pos (by omega), if_pos (by simp; omega), wrap_up hlt hm, Int.toNat_natCast, set_mid _ _ hlt]
theorem SpaceAll : slabvaultlaw12_SpaceAll.Pure := by
  intro l0 hm hb hw
  have hf := fit_wf hm hw
  have hm' : l0.length ≤ 9223372036854775807 := hm
  refine Ev.rounds (g := fun k => slabvaultlaw12_SpaceAll.f k l0) (r := true) ?_
  unfold slabvaultlaw12_SpaceAll.f
  rw [elements_eq]
  simp only [Option.bind_some]
  have fn : Fit ([] : List Int) := ⟨by simp, by simp⟩
  have p1 := places_ev l0 1 [] [] [] [] [] hf (by simp) (by simp) fn fn fn fn
  refine Ev.bind p1 ?_
  by_cases he : (elemsT l0).2 = 0
  · by_cases h4 : (elemsT l0).1 > 4096
    · have hM : measuredT l0 1 [] [] [] [] [] = (0, 18) := by
        unfold measuredT capT
        rw [if_pos he, if_pos rfl, if_pos h4]
      have hP : placesT l0 1 [] [] [] [] [] = ([], 18) := by
        unfold placesT
        rw [hM]
        simp
      rw [hP]
      simp only [he, h4, if_true]
      exact Ev.bind lives_ev (Ev.now true)
    · have hM : measuredT l0 1 [] [] [] [] [] = ((elemsT l0).1, 0) := by
        unfold measuredT capT
        rw [if_pos he, if_pos rfl, if_neg h4]
      obtain ⟨g1, g2, g3, g4⟩ := elems_good he
      have hdim := good_rd g2
      have hd : l0.contains 0 = false → ∀ d : Nat, d < l0.length → 1 ≤ rd l0 d := fun z d hd => by have := (hdim d hd).1; have := contains_rd z d hd; omega
      have P1 := places_law l0 1 [] [] [] [] (by omega) he hM (fun z d hd => by rw [selN_getD _ _ _ _ _ hd, if_pos rfl]) (fun z d k hd hk => by simp [selAv])
      have hng := neg_good g2
      have r1 := rd_rep l0.length 1
      have r0 := rd_rep l0.length 0
      have M2 := slab_measured l0 (List.replicate l0.length 1) l0 (List.replicate l0.length 1) he (by omega) ⟨by simp, neg_rep _ (by omega)⟩ ⟨rfl, hng⟩ ⟨by simp, neg_rep _ (by omega)⟩
        (fun z => by rw [List.contains_iff_mem] at z ⊢; exact List.mem_append_left _ z)
        (fun z => ⟨fun d hlt => ⟨hd z d hlt, by rw [r1 d hlt]; omega, by rw [r1 d hlt]; omega, fun _ => ⟨r1 d hlt, r1 d hlt⟩⟩, by rw [lprod_ones]; omega⟩)
      have M3 := slab_measured l0 (List.replicate l0.length 0) (List.replicate l0.length 1) l0 he (by omega) ⟨by simp, neg_rep _ (by omega)⟩ ⟨by simp, neg_rep _ (by omega)⟩ ⟨rfl, hng⟩
        (fun z => by rw [List.contains_iff_mem] at z ⊢; exact List.mem_append_right _ z)
        (fun z => ⟨fun d hlt => ⟨by rw [r1 d hlt]; omega, hd z d hlt, by rw [r1 d hlt]; omega, fun h => by rw [r0 d hlt] at h; omega⟩, by rw [lprod_ones]; omega⟩)
      have P2 := places_law l0 3 (List.replicate l0.length 0) (List.replicate l0.length 1) l0 (List.replicate l0.length 1) (by omega) he M2
        (fun z d hlt => by rw [selN_getD _ _ _ _ _ hlt, if_neg (by omega), r1 d hlt, Int.mul_one])
        (fun z d k hlt hk => by unfold selAv; rw [if_neg (by omega), r1 d hlt, r0 d hlt]; omega)
      have P3 := places_law l0 3 (List.replicate l0.length 0) (List.replicate l0.length 0) (List.replicate l0.length 1) l0 (by omega) he M3
        (fun z d hlt => by rw [selN_getD _ _ _ _ _ hlt, if_neg (by omega), r1 d hlt, Int.one_mul])
        (fun z d k hlt hk => by unfold selAv; rw [if_neg (by omega), r0 d hlt, Int.emod_eq_of_lt (by omega) hk]; omega)
      have A := all_l0 l0 (elemsT l0).1 hm' hf rfl (elems_nonneg he) (by omega) P2 P3 l0.length 0 (by omega) (by omega)
      rw [P1]
      simp only [he, h4, if_true, if_false]
      have k0 : 0 ≤ (l0.length : Int) := by omega
      have k1 : l0.length ≤ 35184372088832 := by omega
      simp only [k0, Int.toNat_natCast, k1, if_true]
      simpa using A
  · have hM : measuredT l0 1 [] [] [] [] [] = (0, (elemsT l0).2) := by
      unfold measuredT
      rw [if_neg he]
    have hP : placesT l0 1 [] [] [] [] [] = ([], (elemsT l0).2) := by
      unfold placesT
      rw [hM]
      simp only
      rw [if_neg he]
    rw [hP]
    simp only [he, elems_bad he, if_true, if_false]
    exact Ev.bind lives_ev (Ev.now true)
end Go.Proofs.Ytjbjofmcmjojlaa.Pure
