-- Written by wip/tools/hprint.py: walks by the kit's print.py, hand-written texts laid between them. Lean checks all of it.
import Derived.Test.YtjbjofmcmjojlaaWk0
import Derived.Test.YtjbjofmcmjojlaaWk11
import Derived.Test.YtjbjofmcmjojlaaWk12
import Derived.Test.YtjbjofmcmjojlaaWk13
import Derived.Test.YtjbjofmcmjojlaaWk14
namespace Go.Proofs.Ytjbjofmcmjojlaa.Wk
open Go.RowKit Go.Proofs.YtjbjofmcmjojlaaW.PrintWords Go.Proofs.YtjbjofmcmjojlaaW.PrintLast Go.Proofs.YtjbjofmcmjojlaaW.PrintMore
attribute [local go_sem] max2_int min2_int max_two min_two max_three min_three max_four min_four   -- for this text's walks alone
set_option linter.unusedVariables false
set_option linter.unusedSimpArgs false

/-! ### space_Places: function 15 -/
section
open Go.Proofs.YtjbjofmcmjojlaaQ
attribute [local go_sem] Oper.semAt_some
/-- How many steps there are along a dimension, and where the k-th leads. -/
def selN (l0 : List Int) (kind : Int) (cnt blk : List Int) : List Nat := (List.range l0.length).map fun (d : Nat) => if kind = 1 then (rd l0 d).toNat else (rd cnt d * rd blk d).toNat
def selAv (kind : Int) (start stride blk : List Int) (d k : Nat) : Int := if kind = 1 then k else rd start d + (k : Int) / rd blk d * rd stride d + (k : Int) % rd blk d
/-- The tuples that a selection has, if it may be, in their order. -/
def selTuples (l0 : List Int) (kind : Int) (pts : List (List Int)) (start stride cnt blk : List Int) : List (List Int) :=
  if kind = 2 then pts else (lexList (selN l0 kind cnt blk)).map (tupAt (selAv kind start stride blk))
/-- May the iterator be run? -/
def SelOk (l0 : List Int) (kind : Int) (start stride cnt blk : List Int) : Prop :=
  kind = 2 ∨ l0.length ≤ 4 ∧ (kind = 1 ∧ (∀ d : Nat, d < l0.length → 1 ≤ rd l0 d ∧ rd l0 d ≤ 1048576) ∨
    kind ≠ 1 ∧ start.length = l0.length ∧ stride.length = l0.length ∧ cnt.length = l0.length ∧ blk.length = l0.length ∧
      ∀ d : Nat, d < l0.length → 1 ≤ rd cnt d ∧ 1 ≤ rd blk d ∧ rd cnt d * rd blk d ≤ 4096 ∧ 0 ≤ rd start d ∧ 0 ≤ rd stride d ∧ rd start d + (rd cnt d - 1) * rd stride d + rd blk d ≤ 9223372036854775807)
instance (l0 : List Int) (kind : Int) (start stride cnt blk : List Int) : Decidable (SelOk l0 kind start stride cnt blk) := by
  unfold SelOk
  infer_instance
theorem selN_length (l0 : List Int) (kind : Int) (cnt blk : List Int) : (selN l0 kind cnt blk).length = l0.length := by simp [selN]
theorem selN_getD (l0 : List Int) (kind : Int) (cnt blk : List Int) (d : Nat) (h : d < l0.length) : (selN l0 kind cnt blk).getD d 0 = if kind = 1 then (rd l0 d).toNat else (rd cnt d * rd blk d).toNat := by
  simp [selN, List.getD_eq_getElem?_getD, h]
theorem sel_line (l0 : List Int) (a1_0 : Int) (l1_1 : List (List Int)) (l1_2 l1_3 l1_4 l1_5 : List Int) (h2 : a1_0 ≠ 2) (hok : SelOk l0 a1_0 l1_2 l1_3 l1_4 l1_5) (d : Nat) (hd : d < l0.length) :
    (0 < (selN l0 a1_0 l1_4 l1_5).getD d 0 ∧ (selN l0 a1_0 l1_4 l1_5).getD d 0 ≤ 1048576) ∧ ∀ k, k ≤ (selN l0 a1_0 l1_4 l1_5).getD d 0 →
      ∃ x, space_line.f l0 a1_0 l1_1 l1_2 l1_3 l1_4 l1_5 d k = some (x, decide (k < (selN l0 a1_0 l1_4 l1_5).getD d 0)) ∧ (k < (selN l0 a1_0 l1_4 l1_5).getD d 0 → x = selAv a1_0 l1_2 l1_3 l1_5 d k) := by
  rw [selN_getD _ _ _ _ _ hd]
  rcases hok with h | ⟨_, ⟨h1, hdim⟩ | ⟨h1, e2, e3, e4, e5, hb⟩⟩
  · exact absurd h h2
  · subst h1
    have hx := hdim d hd
    rw [if_pos rfl]
    refine ⟨by omega, fun k hk => ⟨k, ?_, fun _ => by simp [selAv]⟩⟩
    unfold space_line.f
    rw [if_pos rfl, if_pos (by omega), if_pos (by omega)]
    congr 2
    rw [decide_eq_decide]
    omega
  · rw [if_neg h1]
    obtain ⟨hc, hbk, hcb, hs, ht, hsum⟩ := hb d hd
    have hmul : 1 * 1 ≤ rd l1_4 d * rd l1_5 d := Int.mul_le_mul hc hbk (by omega) (by omega)
    refine ⟨by omega, fun k hk => ?_⟩
    unfold space_line.f
    rw [if_neg h1, if_pos (by omega), if_pos (by omega), if_neg (by omega), if_pos (by omega), if_pos (by omega), if_pos (by omega)]
    have hq0 : 0 ≤ (k : Int) / rd l1_5 d := Int.ediv_nonneg (by omega) (by omega)
    have hq1 : (k : Int) / rd l1_5 d ≤ k := Int.ediv_le_self _ (by omega)
    have hm0 : 0 ≤ (k : Int) % rd l1_5 d := Int.emod_nonneg _ (by omega)
    have hm1 : (k : Int) % rd l1_5 d < rd l1_5 d := Int.emod_lt_of_pos _ (by omega)
    have e1 : Int.tdiv (k : Int) (rd l1_5 d) = (k : Int) / rd l1_5 d := Int.tdiv_eq_ediv_of_nonneg (by omega)
    have e6 : Int.tmod (k : Int) (rd l1_5 d) = (k : Int) % rd l1_5 d := Int.tmod_eq_emod_of_nonneg (by omega)
    have w1 : wrap64 ((k : Int) / rd l1_5 d) = (k : Int) / rd l1_5 d := by unfold wrap64; omega
    rw [e1, e6, w1]
    refine ⟨_, by
      congr 2
      rw [decide_eq_decide, Int.ediv_lt_iff_lt_mul (by omega)]
      omega, fun hlt => ?_⟩
    have hlt2 : (k : Int) / rd l1_5 d < rd l1_4 d := by
      rw [Int.ediv_lt_iff_lt_mul (by omega)]
      omega
    have hp0 : 0 ≤ (k : Int) / rd l1_5 d * rd l1_3 d := Int.mul_nonneg hq0 ht
    have hp1 : (k : Int) / rd l1_5 d * rd l1_3 d ≤ (rd l1_4 d - 1) * rd l1_3 d := Int.mul_le_mul_of_nonneg_right (by omega) ht
    have w2 : wrap64 ((k : Int) / rd l1_5 d * rd l1_3 d) = (k : Int) / rd l1_5 d * rd l1_3 d := by unfold wrap64; omega
    rw [w2]
    have w3 : wrap64 (rd l1_2 d + (k : Int) / rd l1_5 d * rd l1_3 d) = rd l1_2 d + (k : Int) / rd l1_5 d * rd l1_3 d := by unfold wrap64; omega
    rw [w3]
    have w4 : wrap64 (rd l1_2 d + (k : Int) / rd l1_5 d * rd l1_3 d + (k : Int) % rd l1_5 d) = rd l1_2 d + (k : Int) / rd l1_5 d * rd l1_3 d + (k : Int) % rd l1_5 d := by unfold wrap64; omega
    rw [w4]
    unfold selAv
    rw [if_neg h1]
theorem sel_hands (A0 : Option Addr) (c0 : Nat) (l0 : List Int) (a1_0 : Int) (A1_1 : Option Addr) (c1_1 : Nat) (l1_1 : List (List Int)) (A1_2 : Option Addr) (c1_2 : Nat) (l1_2 : List Int) (A1_3 : Option Addr) (c1_3 : Nat) (l1_3 : List Int) (A1_4 : Option Addr) (c1_4 : Nat) (l1_4 : List Int) (A1_5 : Option Addr) (c1_5 : Nat) (l1_5 : List Int) (Bs Bd : Nat) (S0 : Nat → Prop) (wl : World) (hok : SelOk l0 a1_0 l1_2 l1_3 l1_4 l1_5)
    (hsel : ∀ W, SameOn S0 wl W → SelMem W Bs Bd A0 c0 l0 a1_0 A1_1 c1_1 l1_1 A1_2 c1_2 l1_2 A1_3 c1_3 l1_3 A1_4 c1_4 l1_4 A1_5 c1_5 l1_5) (hS0 : ∀ k, S0 k → k < wl.heap.size) :
    Hands Try.prog 42 #[.pointer (some ⟨Bs, 0, none⟩), .pointer (some ⟨Bd, 0, none⟩)] RdI (selTuples l0 a1_0 l1_1 l1_2 l1_3 l1_4 l1_5) S0 wl := by
  by_cases h2 : a1_0 = 2
  · subst h2
    unfold selTuples
    rw [if_pos rfl]
    exact each1_points Bs Bd A1_1 c1_1 l1_1 S0 wl hS0 (fun W hW => ⟨(hsel W hW).k0, (hsel W hW).k1, (hsel W hW).r1⟩)
  · unfold selTuples
    rw [if_neg h2]
    have h4 : l0.length ≤ 4 := by
      rcases hok with h | ⟨h, _⟩
      · exact absurd h h2
      · exact h
    have hN := selN_length l0 a1_0 l1_4 l1_5
    have hl := sel_line l0 a1_0 l1_1 l1_2 l1_3 l1_4 l1_5 h2 hok
    refine each1_steps Bs Bd A0 c0 l0 a1_0 A1_1 c1_1 l1_1 A1_2 c1_2 l1_2 A1_3 c1_3 l1_3 A1_4 c1_4 l1_4 A1_5 c1_5 l1_5 S0 wl hsel hS0 h2 (selN l0 a1_0 l1_4 l1_5) hN (by omega) (selAv a1_0 l1_2 l1_3 l1_5) (fun d hd => (hl d (by omega)).2) (fun d hd => (hl d (by omega)).1.1) ?_ _ (odo_lex _ (fun d hd => (hl d (by omega)).1.1))
    intro d
    by_cases hd : d < l0.length
    · exact (hl d hd).1.2
    · rw [List.getD_eq_getElem?_getD, List.getElem?_eq_none (by omega)]
      simp

def placeW (l0 x : List Int) : Nat → Nat → Int → Int
  | 0, _, p => p
  | n + 1, d, p => placeW l0 x n (d + 1) (wrap64 (wrap64 (p * rd l0 d) + rd x d))
def placeOf (l0 x : List Int) : Int := placeW l0 x x.length 0 0
/-- What Places tells, where it can be told by this text. -/
def space_Places.f (k : Nat) (l0 : List Int) (a1_0 : Int) (l1_1 : List (List Int)) (l1_2 : List Int) (l1_3 : List Int) (l1_4 : List Int) (l1_5 : List Int) : Option (List Int × Int) :=
  (space_measured.f k l0 a1_0 l1_1 l1_2 l1_3 l1_4 l1_5).bind fun r =>
    if r.2 = 0 then (if r.1 = 0 then some ([], 0) else if SelOk l0 a1_0 l1_2 l1_3 l1_4 l1_5 ∧ (selTuples l0 a1_0 l1_1 l1_2 l1_3 l1_4 l1_5).length ≤ 4096 ∧ (∀ x ∈ selTuples l0 a1_0 l1_1 l1_2 l1_3 l1_4 l1_5, x.length ≤ l0.length) ∧ 0 ≤ r.1 ∧ r.1 ≤ 4096 then some ((selTuples l0 a1_0 l1_1 l1_2 l1_3 l1_4 l1_5).map (placeOf l0), 0) else none)
    else some ([], r.2)
theorem space_Places.mono : ∀ a0 a1 a2 a3 a4 a5 a6 k, LeO (space_Places.f k a0 a1 a2 a3 a4 a5 a6) (space_Places.f (k + 1) a0 a1 a2 a3 a4 a5 a6) := by
  intro a0 a1 a2 a3 a4 a5 a6 k
  unfold space_Places.f
  exact LeO.bind (space_measured.mono _ _ _ _ _ _ _ _) (fun _ => LeO.refl _)

theorem two_boxes {w w1 : World} {a b : Array Value} {s t : TypeId} (hb : Below ((w.alloc (.cells a s)).alloc (.cells b t)).heap.size ((w.alloc (.cells a s)).alloc (.cells b t)) w1) :
    w1.heap[w.heap.size]? = some (.cells a s (0, 0)) ∧ w1.heap[w.heap.size + 1]? = some (.cells b t (0, 0)) ∧ Below w.heap.size w w1 := by
  have h1 := World.alloc_heap_new w (.cells a s)
  have h2 := World.alloc_heap_new (w.alloc (.cells a s)) (.cells b t)
  rw [World.size_alloc] at h2
  refine ⟨?_, ?_, ?_⟩
  · rw [hb.block _ (by simp only [World.size_alloc]; omega), Below.heap_alloc _ _ _ (by simp only [World.size_alloc]; omega), h1]
  · rw [hb.block _ (by simp only [World.size_alloc]; omega), h2]
  · exact ((((Below.refl _ w).alloc (Nat.le_refl _) _).alloc (by simp only [World.size_alloc]; omega) _).trans (hb.mono (by simp only [World.size_alloc]; omega)))
theorem cell_two {w1 : World} {B : Nat} {a : Array Value} {t : TypeId} (h : w1.heap[B]? = some (.cells a t (0, 0))) (j : Nat) {v : Value} (hv : a[j]? = some v) (o o' : Obj) : ((w1.alloc o).alloc o').cell? ⟨B, j, none⟩ = some v := by
  have h0 : w1.cell? ⟨B, j, none⟩ = some v := by simp [World.cell?, h, hv]
  have hb : Below w1.heap.size w1 ((w1.alloc o).alloc o') := ((Below.refl _ w1).alloc (Nat.le_refl _) o).alloc (by simp only [World.size_alloc]; omega) o'
  exact pw_cell_below hb h0
theorem four_allocs (w : World) (a b c d : Obj) : ((((w.alloc a).alloc b).alloc c).alloc d).heap[w.heap.size]? = some a ∧ ((((w.alloc a).alloc b).alloc c).alloc d).heap[w.heap.size + 1]? = some b ∧
    ((((w.alloc a).alloc b).alloc c).alloc d).heap[w.heap.size + 1 + 1]? = some c ∧ ((((w.alloc a).alloc b).alloc c).alloc d).heap[w.heap.size + 1 + 1 + 1]? = some d ∧ Below w.heap.size w ((((w.alloc a).alloc b).alloc c).alloc d) ∧
    ((((w.alloc a).alloc b).alloc c).alloc d).heap.size = w.heap.size + 4 := by
  have h1 := World.alloc_heap_new w a
  have h2 := World.alloc_heap_new (w.alloc a) b
  have h3 := World.alloc_heap_new ((w.alloc a).alloc b) c
  have h4 := World.alloc_heap_new (((w.alloc a).alloc b).alloc c) d
  simp only [World.size_alloc] at h2 h3 h4
  refine ⟨?_, ?_, ?_, h4, ?_, by simp⟩
  · rw [Below.heap_alloc _ _ _ (by simp only [World.size_alloc]; omega), Below.heap_alloc _ _ _ (by simp only [World.size_alloc]; omega), Below.heap_alloc _ _ _ (by simp only [World.size_alloc]; omega), h1]
  · rw [Below.heap_alloc _ _ _ (by simp only [World.size_alloc]; omega), Below.heap_alloc _ _ _ (by simp only [World.size_alloc]; omega), h2]
  · rw [Below.heap_alloc _ _ _ (by simp only [World.size_alloc]; omega), h3]
  · exact ((((Below.refl _ w).alloc (Nat.le_refl _) a).alloc (by rw [World.size_alloc]; omega) b).alloc (by simp only [World.size_alloc]; omega) c).alloc (by simp only [World.size_alloc]; omega) d

/-- The blocks that the iterator leans on: all that lay there, but the result's row and the box of its variable. -/
def placesS (wl w1 : World) (k : Nat) : Prop := k < wl.heap.size ∧ k ≠ w1.heap.size + 1 ∧ k ≠ w1.heap.size
/-- Between two rounds: the result's variable holds the places so far. -/
def PlacesInv (l0 : List Int) (w wl w1 : World) (S : Nat → Prop) (pre : List (List Int)) (W : World) : Prop :=
  ∃ v, W.heap[w1.heap.size + 1]? = some (.cells #[v] 22 (0, 0)) ∧ ¬ S (w1.heap.size + 1) ∧ (Kd.int .i64).R 3 W w.heap.size (fun k => ¬ S k ∧ k ≠ w1.heap.size + 1) v (pre.map (placeOf l0)) ∧ SameOn (placesS wl w1) wl W
theorem placesInv_bears (l0 : List Int) (w wl w1 : World) : Bears (placesS wl w1) (PlacesInv l0 w wl w1) where
  step := by
    rintro S pre A B ⟨v, h1, h2, h3, h4⟩ hs
    have hlt := (Array.getElem?_eq_some_iff.1 h1).1
    exact ⟨v, (hs.same _ (.inl h2) hlt).trans h1, h2, Kd.R_step h3 (fun k hk hl => hs.same k (.inl hk.1) hl), h4.trans (hs.mono (fun k h => .inr h))⟩
  more := by
    rintro S T pre A ⟨v, h1, h2, h3, h4⟩ ht
    have hlt := (Array.getElem?_eq_some_iff.1 h1).1
    refine ⟨v, h1, ?_, Kd.R_mono (Kd.R_bound h3) (fun k hk => ⟨?_, hk.1.2⟩), h4⟩
    · rintro (h | h)
      · exact h2 h
      · have := ht _ h; omega
    · rintro (h | h)
      · exact hk.1.1 h
      · have := ht _ h; have := hk.2.2.1; omega
theorem placesInv_put (l0 : List Int) (w wl w1 : World) : ∀ S pre A (l : Nat) (o o' : Obj), PlacesInv l0 w wl w1 S pre A → A.heap[l]? = some o → o.isCells = false → wl.heap.size ≤ l → PlacesInv l0 w wl w1 S pre (A.putObj l o') := by
  rintro S pre A l o o' ⟨v, h1, h2, h3, h4⟩ hl ho hle
  refine ⟨v, ?_, h2, Kd.R_mono (Kd.R_step (Kd.R_bound h3) (fun k hk _ => ?_)) (fun k hk => hk.1), h4.trans (SameOn.putObj _ _ _ (fun h => by have := h.1; omega))⟩
  · rw [World.putObj_heap_other]
    · exact h1
    · rintro rfl
      rw [h1] at hl
      cases hl
      cases ho
  · refine World.putObj_heap_other ?_
    rintro rfl
    obtain ⟨_, _, _, q, _, cs, hc⟩ := hk
    rw [hc] at hl
    cases hl
    cases ho
theorem RdI_put : ∀ (x : List Int) (v : Value) (A : World) (l : Nat) (o o' : Obj), RdI x v A → A.heap[l]? = some o → o.isCells = false → RdI x v (A.putObj l o') := by
  rintro x v A l o o' ⟨a, c, rfl, hc, h⟩ hl ho
  refine ⟨a, c, rfl, hc, ?_⟩
  have hr := Kd.reads_of_C (d := (0 : Int)) (h1 := fun _ => rfl) h
  refine Kd.C_of_reads (d := (0 : Int)) (h1 := fun _ => rfl) ⟨hr.1, hr.2.1, fun hn => ?_⟩
  obtain ⟨ad, e1, hcc⟩ := hr.2.2 hn
  refine ⟨ad, e1, fun j hj => ?_⟩
  have hcj := hcc j hj
  unfold World.cell? at hcj ⊢
  rw [World.putObj_heap_other]
  · exact hcj
  · intro e
    rw [e, hl] at hcj
    cases o <;> first | (simp at hcj; done) | (simp [Obj.isCells] at ho; done)

theorem placesInv_box {W w2 : World} {Bo : Nat} {u : Value} {T : Obj} (hbox : W.heap[Bo]? = some (.cells #[u] 22 (0, 0))) {row : Option Nat} (hne : row ≠ some Bo) (hg : (W.alloc T).grownBy w2 row) : w2.heap[Bo]? = some (.cells #[u] 22 (0, 0)) := by
  have hlt := (Array.getElem?_eq_some_iff.1 hbox).1
  rw [hg.block Bo (by rw [World.size_alloc]; omega) (fun e => hne e.symm), Below.heap_alloc _ _ _ hlt, hbox]
theorem placesInv_step (l0 : List Int) (w wl w1 : World) (S : Nat → Prop) (pre : List (List Int)) (x : List Int) (u v2 : Value) (W w2 : World) (q : Int) (T : Obj)
    (hbox : W.heap[w1.heap.size + 1]? = some (.cells #[u] 22 (0, 0))) (hSb : ¬ S (w1.heap.size + 1)) (hrow : (Kd.int .i64).R 3 W w.heap.size (fun k => ¬ S k ∧ k ≠ w1.heap.size + 1) u (pre.map (placeOf l0)))
    (hsame : SameOn (placesS wl w1) wl W) (hS : ∀ k, S k → k < W.heap.size) (hsub : ∀ k, placesS wl w1 k → S k) (hq : q = placeOf l0 x)
    (ho : w2.ownsRow w.heap.size 3 1 v2 (pre.length + 1) (encs (Value.int .i64) (pre.map (placeOf l0)) ++ [.int .i64 q])) (hg : (W.alloc T).grownBy w2 u.ownBlock)
    (ha : v2.ownBlock = u.ownBlock ∨ v2.ownBlock = some (W.alloc T).heap.size) :
    KeepsOthers W (w2.setCell ⟨w1.heap.size + 1, 0, none⟩ v2) ∧ PlacesInv l0 w wl w1 S (pre ++ [x]) (w2.setCell ⟨w1.heap.size + 1, 0, none⟩ v2) ∧ SameOn S W (w2.setCell ⟨w1.heap.size + 1, 0, none⟩ v2) := by
  have hlt := (Array.getElem?_eq_some_iff.1 hbox).1
  have hne : u.ownBlock ≠ some (w1.heap.size + 1) := fun e => (hrow.1 _ e).2 rfl
  have hb2 := placesInv_box hbox hne hg
  have hbel : Below 0 (W.alloc T) w2 := (Below.refl 0 _).grown hg (Nat.zero_le _) (fun k _ => Nat.zero_le _)
  have hs : SameOn S W (w2.setCell ⟨w1.heap.size + 1, 0, none⟩ v2) :=
    ((SameOn.alloc S W T).trans (SameOn.of_grown hg hbel (fun k e => (hrow.1 _ e).1))).trans (SameOn.setCell _ _ _ hSb)
  refine ⟨?_, ⟨v2, ?_, hSb, ?_, hsame.trans (hs.mono hsub)⟩, hs⟩
  · refine ((KeepsOthers.alloc W T).trans (KeepsOthers.of_grownBy hg (fun j o e hj => ?_))).trans (KeepsOthers.setCell _ _ _)
    obtain ⟨cells, hc⟩ := own_typed (Kd.own_of_R hrow) j e
    have hj2 := (Array.getElem?_eq_some_iff.1 hc).1
    rw [Below.heap_alloc _ _ _ hj2, hc] at hj
    cases hj
    rfl
  · have := Boxed.set (t := 22) v2 hb2
    exact this
  · have h1 : (Kd.int .i64).R 3 w2 w.heap.size (fun k => ¬ S k ∧ k ≠ w1.heap.size + 1) v2 ((pre ++ [x]).map (placeOf l0)) := by
      refine Kd.R_of_own ?_ (fun k hk => ?_)
      · rw [List.map_append, List.map_cons, List.map_nil, ← hq, List.length_append, List.length_map, encs_append]
        exact ho
      · rcases ha with e | e
        · exact hrow.1 k (by rw [← e]; exact hk)
        · rw [e, World.size_alloc] at hk
          cases hk
          exact ⟨fun h => by have := hS _ h; omega, by omega⟩
    exact Kd.R_far h1 (fun k hk => hk.2) _
set_option maxHeartbeats 8000000 in
set_option maxRecDepth 100000 in
theorem space_Places.calls (k : Nat) (A0 : Option Addr) (c0 : Nat) (l0 : List Int) (a1_0 : Int) (A1_1 : Option Addr) (c1_1 : Nat) (l1_1 : List (List Int)) (A1_2 : Option Addr) (c1_2 : Nat) (l1_2 : List Int) (A1_3 : Option Addr) (c1_3 : Nat) (l1_3 : List Int) (A1_4 : Option Addr) (c1_4 : Nat) (l1_4 : List Int) (A1_5 : Option Addr) (c1_5 : Nat) (l1_5 : List Int) (r1 : List Int) (r2 : Int) (w : World) (hr0 : Kd.C (Kd.int .i64) w A0 l0.length l0) (hc0 : l0.length ≤ c0) (hr1_1 : Kd.C (Kd.slice 3 (Kd.int .i64)) w A1_1 l1_1.length l1_1) (hc1_1 : l1_1.length ≤ c1_1) (hr1_2 : Kd.C (Kd.int .i64) w A1_2 l1_2.length l1_2) (hc1_2 : l1_2.length ≤ c1_2) (hr1_3 : Kd.C (Kd.int .i64) w A1_3 l1_3.length l1_3) (hc1_3 : l1_3.length ≤ c1_3) (hr1_4 : Kd.C (Kd.int .i64) w A1_4 l1_4.length l1_4) (hc1_4 : l1_4.length ≤ c1_4) (hr1_5 : Kd.C (Kd.int .i64) w A1_5 l1_5.length l1_5) (hc1_5 : l1_5.length ≤ c1_5) (h : space_Places.f k l0 a1_0 l1_1 l1_2 l1_3 l1_4 l1_5 = some (r1, r2)) :
    Calls Try.prog 15 #[.slice A0 l0.length c0, .agg #[.int .i64 a1_0, .slice A1_1 l1_1.length c1_1, .slice A1_2 l1_2.length c1_2, .slice A1_3 l1_3.length c1_3, .slice A1_4 l1_4.length c1_4, .slice A1_5 l1_5.length c1_5]] w fun e w' => ∃ v0_ : Value, e = .returned (.tuple #[v0_, .int .i64 r2]) ∧ Kd.R (Kd.int .i64) 3 w' w.heap.size (fun _ => True) v0_ r1 ∧ Below w.heap.size w w' := by
  unfold space_Places.f at h
  obtain ⟨⟨n, e⟩, hm, h⟩ := Option.bind_eq_some_iff.mp h
  have HM := Aside0.mk hm
  have HR0 := Aside0.mk hr0
  have HC0 := Aside0.mk hc0
  have HR1_1 := Aside0.mk hr1_1
  have HC1_1 := Aside0.mk hc1_1
  have HR1_2 := Aside0.mk hr1_2
  have HC1_2 := Aside0.mk hc1_2
  have HR1_3 := Aside0.mk hr1_3
  have HC1_3 := Aside0.mk hc1_3
  have HR1_4 := Aside0.mk hr1_4
  have HC1_4 := Aside0.mk hc1_4
  have HR1_5 := Aside0.mk hr1_5
  have HC1_5 := Aside0.mk hc1_5
  clear hm hr0 hc0 hr1_1 hc1_1 hr1_2 hc1_2 hr1_3 hc1_3 hr1_4 hc1_4 hr1_5 hc1_5
  have hu33 := Try.underlying33
  simp only at h
  by_cases he : e = 0
  · subst he
    rw [if_pos rfl] at h
    by_cases hn : n = 0
    · subst hn
      rw [if_pos rfl] at h
      cases h
      go_enter Try.func15, Try.ntmps15
      go_wp2_with (go_at_call 30; refine (space_measured.calls k A0 c0 l0 a1_0 A1_1 c1_1 l1_1 (fun _ => True) A1_2 c1_2 l1_2 (fun _ => True) A1_3 c1_3 l1_3 (fun _ => True) A1_4 c1_4 l1_4 (fun _ => True) A1_5 c1_5 l1_5 0 0 _ (Kd.C_alloc (Kd.C_alloc HR0.out _) _) HC0.out (Kd.C_alloc (Kd.C_alloc HR1_1.out _) _) HC1_1.out (V_of_ints (Kd.C_alloc (Kd.C_alloc HR1_2.out _) _) HC1_2.out) (V_of_ints (Kd.C_alloc (Kd.C_alloc HR1_3.out _) _) HC1_3.out) (V_of_ints (Kd.C_alloc (Kd.C_alloc HR1_4.out _) _) HC1_4.out) (V_of_ints (Kd.C_alloc (Kd.C_alloc HR1_5.out _) _) HC1_5.out) HM.out).mono ?_; rintro e_ w1 ⟨rfl, hb⟩)
      go_ret2
      exact ⟨_, rfl, Kd.R_nil _ _ _ _ _, ((((Below.refl _ w).alloc (Nat.le_refl _) _).alloc (by simp) _).trans (hb.mono (by simp; omega)))⟩
    · rw [if_neg hn] at h
      split at h
      case isFalse => cases h
      case isTrue hq =>
      cases h
      obtain ⟨hok, hlen, hsub, hn0, hn1⟩ := hq
      have HOK := Aside0.mk hok
      have HLEN := Aside0.mk hlen
      have HSUB := Aside0.mk hsub
      clear hok hlen hsub
      have hnb : (n == 0) = false := by simpa using hn
      have hmk : ∀ W : World, (Instr.makeSlice 22 (.int .i64 0) (.int .i64 n)).run Try.prog W = .ok (.slice (some ⟨W.heap.size, 0, none⟩) 0 n.toNat) (W.alloc (.cells (madeCells #[.int .i64 0] n.toNat) 3)) := fun W => by
        obtain ⟨i0, hi, hz⟩ := Option.map_eq_some_iff.1 (show (Try.prog.info? 3).map (fun i => (i.zero, i.size, i.bytes)) = some (some (.int .i64 0), 1, 8) by kernel_rfl)
        simp only [Prod.mk.injEq] at hz
        have := run_make (P := Try.prog) (w := W) 22 3 i0 (.int .i64 0) Try.underlying22 hi hz.1 .i64 .i64 0 n (by omega) hn0 (by rw [hz.2.2]; omega) (by omega)
        rw [hz.2.1] at this
        simpa [Value.cells] using this
      refine (callsIn_wide (n := 0)).1 (callsIn_of_wp_marks Try.func15 rfl trivial (wpIn_wide.2 ?_) rfl)
      simp only [Try.ntmps15, List.size_toArray, List.length_cons, List.length_nil, Nat.reduceAdd, Nat.reduceSub, Array.replicate_succ, Array.replicate_zero, List.push_toArray, List.append_toArray, List.nil_append, List.cons_append]
      go_wp2_with (first
        | (go_at_call 30; refine (space_measured.calls k A0 c0 l0 a1_0 A1_1 c1_1 l1_1 (fun _ => True) A1_2 c1_2 l1_2 (fun _ => True) A1_3 c1_3 l1_3 (fun _ => True) A1_4 c1_4 l1_4 (fun _ => True) A1_5 c1_5 l1_5 n 0 _ (Kd.C_alloc (Kd.C_alloc HR0.out _) _) HC0.out (Kd.C_alloc (Kd.C_alloc HR1_1.out _) _) HC1_1.out (V_of_ints (Kd.C_alloc (Kd.C_alloc HR1_2.out _) _) HC1_2.out) (V_of_ints (Kd.C_alloc (Kd.C_alloc HR1_3.out _) _) HC1_3.out) (V_of_ints (Kd.C_alloc (Kd.C_alloc HR1_4.out _) _) HC1_4.out) (V_of_ints (Kd.C_alloc (Kd.C_alloc HR1_5.out _) _) HC1_5.out) HM.out).mono ?_; rintro e_ w1 ⟨rfl, hb⟩; obtain ⟨hbd, hbs, hbw⟩ := two_boxes hb; have HBD := Aside0.mk hbd; have HBS := Aside0.mk hbs; have HBW := Aside0.mk hbw; clear hbd hbs hbw hb; have hcd := fun o o' => cell_two HBD.out 0 rfl o o'; have hk0 := fun o o' => cell_two HBS.out 0 rfl o o'; have hk1 := fun o o' => cell_two HBS.out 1 rfl o o'; have hk2 := fun o o' => cell_two HBS.out 2 rfl o o'; have hk3 := fun o o' => cell_two HBS.out 3 rfl o o'; have hk4 := fun o o' => cell_two HBS.out 4 rfl o o'; have hk5 := fun o o' => cell_two HBS.out 5 rfl o o')
        | (go_at_call 31; refine (space_each A0 c0 l0 a1_0 A1_1 c1_1 l1_1 A1_2 c1_2 l1_2 A1_3 c1_3 l1_3 A1_4 c1_4 l1_4 A1_5 c1_5 l1_5 _).mono ?_; rintro e_ w2 ⟨rfl, rfl⟩))
      obtain ⟨g1, g2, g3, g4, g5, g6⟩ := four_allocs w1 (.cells (madeCells #[.int .i64 0] n.toNat) 3) (.cells #[.slice (some ⟨w1.heap.size, 0, none⟩) 0 n.toNat] 22) (.cells #[.slice A0 l0.length c0] 22) (.cells #[.int .i64 a1_0, .slice A1_1 l1_1.length c1_1, .slice A1_2 l1_2.length c1_2, .slice A1_3 l1_3.length c1_3, .slice A1_4 l1_4.length c1_4, .slice A1_5 l1_5.length c1_5] 33)
      generalize ((((w1.alloc (.cells (madeCells #[.int .i64 0] n.toNat) 3)).alloc (.cells #[.slice (some ⟨w1.heap.size, 0, none⟩) 0 n.toNat] 22)).alloc (.cells #[.slice A0 l0.length c0] 22)).alloc (.cells #[.int .i64 a1_0, .slice A1_1 l1_1.length c1_1, .slice A1_2 l1_2.length c1_2, .slice A1_3 l1_3.length c1_3, .slice A1_4 l1_4.length c1_4, .slice A1_5 l1_5.length c1_5] 33)) = wl at g1 g2 g3 g4 g5 g6 ⊢
      have hw1 := HBW.out.size
      have hw2 := (Array.getElem?_eq_some_iff.1 HBS.out).1
      have hbl : Below w.heap.size w wl := HBW.out.trans (g5.mono hw1)
      have hsub0 : ∀ k, k < w.heap.size → placesS wl w1 k := fun k hk => ⟨by omega, by omega, by omega⟩
      have HSEL : Aside0 (∀ W, SameOn (placesS wl w1) wl W → SelMem W (w1.heap.size + 1 + 1 + 1) (w1.heap.size + 1 + 1) A0 c0 l0 a1_0 A1_1 c1_1 l1_1 A1_2 c1_2 l1_2 A1_3 c1_3 l1_3 A1_4 c1_4 l1_4 A1_5 c1_5 l1_5) := ⟨fun W hW =>
        selMem_of A0 c0 l0 a1_0 A1_1 c1_1 l1_1 A1_2 c1_2 l1_2 A1_3 c1_3 l1_3 A1_4 c1_4 l1_4 A1_5 c1_5 l1_5 w W _ _ (hbl.trans (hW.below hsub0 hbl.size)) ((hW.same _ ⟨by omega, by omega, by omega⟩ (by omega)).trans g3) ((hW.same _ ⟨by omega, by omega, by omega⟩ (by omega)).trans g4) HR0.out HC0.out HR1_1.out HC1_1.out HR1_2.out HC1_2.out HR1_3.out HC1_3.out HR1_4.out HC1_4.out HR1_5.out HC1_5.out⟩
      have HDIM : Aside0 (∀ W, SameOn (placesS wl w1) wl W → W.cell? ⟨w.heap.size, 0, none⟩ = some (.slice A0 l0.length c0) ∧ (Kd.int .i64).C W A0 l0.length l0) := ⟨fun W hW => by
        have h1 : W.heap[w.heap.size]? = some (.cells #[.slice A0 l0.length c0] 22 (0, 0)) := (hW.same _ ⟨by omega, by omega, by omega⟩ (by omega)).trans ((g5.block _ (by omega)).trans HBD.out)
        exact ⟨by simp [World.cell?, h1], Kd.C_below HR0.out (hbl.trans (hW.below hsub0 hbl.size))⟩⟩
      have HROW : Aside0 ((Kd.int .i64).R 3 wl w.heap.size (fun k => ¬ placesS wl w1 k ∧ k ≠ w1.heap.size + 1) (.slice (some ⟨w1.heap.size, 0, none⟩) 0 n.toNat) []) := ⟨Kd.R_of_own (xs := []) ⟨rfl, .inr ⟨_, _, _, rfl, by omega, g1, Nat.zero_le _, by unfold maxLen; omega, by simp [size_madeCells], rfl⟩⟩ (fun k hk => by
        have : w1.heap.size = k := by simpa [Value.ownBlock] using hk
        subst this
        exact ⟨fun h => h.2.2 rfl, by omega⟩)⟩
      have HLE : Aside0 (Below w.heap.size w wl) := ⟨hbl⟩
      have hwlz : w1.heap.size + 4 = wl.heap.size := g6.symm
      clear hcd hk0 hk1 hk2 hk3 hk4 hk5 g1 g3 g4 g5 g6 hbl hsub0 hmk HBD HBS HBW
      refine wp_rangeMem (gf := 42) rfl (fun _ _ => rfl) (sel_hands A0 c0 l0 a1_0 A1_1 c1_1 l1_1 A1_2 c1_2 l1_2 A1_3 c1_3 l1_3 A1_4 c1_4 l1_4 A1_5 c1_5 l1_5 _ _ _ wl HOK.out HSEL.out (fun k h => h.1)) (fun k h => h.1)
        (PlacesInv l0 w wl w1) (placesInv_bears l0 w wl w1) (placesInv_put l0 w wl w1) RdI_put ⟨_, g2, fun h => h.2.1 rfl, HROW.out, SameOn.refl _ _⟩
        (fun v => { tmps := #[.slice A0 l0.length c0, .agg #[.int .i64 a1_0, .slice A1_1 l1_1.length c1_1, .slice A1_2 l1_2.length c1_2, .slice A1_3 l1_3.length c1_3, .slice A1_4 l1_4.length c1_4, .slice A1_5 l1_5.length c1_5], .pointer (some ⟨w.heap.size, 0, none⟩), .pointer (some ⟨w.heap.size + 1, 0, none⟩), .slice none 0 0, .int .i64 0, .int .i64 n, .int .i64 0, .pointer (some ⟨w1.heap.size + 1, 0, none⟩), v, undef, undef, undef, .tuple #[.int .i64 n, .int .i64 0], .slice A0 l0.length c0, .agg #[.int .i64 a1_0, .slice A1_1 l1_1.length c1_1, .slice A1_2 l1_2.length c1_2, .slice A1_3 l1_3.length c1_3, .slice A1_4 l1_4.length c1_4, .slice A1_5 l1_5.length c1_5], .tuple #[.int .i64 n, .int .i64 0], .int .i64 n, .int .i64 0, .int .i64 0, .bool false, .bool false, .int .i64 n, .bool false, .bool false, undef, .int .i64 n, .slice (some ⟨w1.heap.size, 0, none⟩) 0 n.toNat, .slice A0 l0.length c0, .agg #[.int .i64 a1_0, .slice A1_1 l1_1.length c1_1, .slice A1_2 l1_2.length c1_2, .slice A1_3 l1_3.length c1_3, .slice A1_4 l1_4.length c1_4, .slice A1_5 l1_5.length c1_5], .func (.func 42) #[] #[.pointer (some ⟨w1.heap.size + 1 + 1 + 1, 0, none⟩), .pointer (some ⟨w1.heap.size + 1 + 1, 0, none⟩)], v, undef, undef, undef, undef, undef, undef, undef, undef, undef, undef, undef, undef, undef, undef, undef, undef, undef, undef, undef, undef, undef], defers := [] }) ?assign ?body ?done
      case assign =>
        intro l v W m K hK
        gi_wp2
        exact hK
      case body =>
        rintro l m S pre x v W ⟨u, hbox, hSb, hrow, hsame⟩ hsubS hSlt hpre ⟨A, c, rfl, hcx, hC⟩
        have hmem := hpre.subset (List.mem_append_right pre (List.mem_singleton.2 rfl))
        have hlen : x.length ≤ l0.length := HSUB.out _ hmem
        have hpl : pre.length + 1 ≤ 4096 := by
          have := hpre.length_le
          rw [List.length_append] at this
          have h2 := HLEN.out
          simp at this
          omega
        clear hmem
        have hxm := Kd.C_max hC
        obtain ⟨hcd, hCd⟩ := HDIM.out W hsame
        have HC := Aside0.mk hC
        have HCD := Aside0.mk hCd
        have HBX := Aside0.mk hbox
        have HROWI := Aside0.mk hrow
        have HSAME := Aside0.mk hsame
        clear hC hCd hbox hrow hsame
        gi_wp2
        gi_loop [10, 34] (fun p i => ∃ (d : Nat) (q : Int), d ≤ x.length ∧ i = .int .i64 d ∧ p = .int .i64 q ∧ Aside0 (placeW l0 x (x.length - d) d q = placeOf l0 x)) (fun _ i => x.length - (intOf i).toNat)
        case atStart => exact ⟨0, 0, Nat.zero_le _, rfl, rfl, ⟨rfl⟩⟩
        case round =>
          obtain ⟨d, q, hd, rfl, rfl, HE⟩ := hrel
          by_cases hlt : d < x.length
          · obtain ⟨ad, e1, hx0⟩ := Kd.at_int HC.out d (by omega) (by omega)
            obtain ⟨ad2, e2, hx2⟩ := Kd.at_int HCD.out d (by omega) (by omega)
            cases e1
            cases e2
            have hx : W.cell? (ad.add d) = some (Value.int IntKind.i64 (rd x d)) := by simpa using hx0
            have hy : W.cell? (ad2.add d) = some (Value.int IntKind.i64 (rd l0 d)) := by simpa using hx2
            clear hx0 hx2
            have HE2 : Aside0 (placeW l0 x (x.length - (d + 1)) (d + 1) (wrap64 (wrap64 (q * rd l0 d) + rd x d)) = placeOf l0 x) := ⟨by
              rw [← HE.out, show x.length - d = (x.length - (d + 1)) + 1 by omega, placeW]⟩
            have hdl : d < l0.length := by omega
            gi_wp2
            go_round
            case rel => exact ⟨d + 1, _, by omega, by simp, rfl, HE2⟩
            case measure => simp [intOf]; omega
          · obtain rfl : d = x.length := by omega
            have HE2 : Aside0 (q = placeOf l0 x) := ⟨by have := HE.out; rwa [Nat.sub_self, placeW] at this⟩
            have hcb : W.cell? ⟨w1.heap.size + 1, 0, none⟩ = some u := by simp [World.cell?, HBX.out]
            obtain ⟨i0, hi, hz⟩ := Option.map_eq_some_iff.1 (show (Try.prog.info? 3).map (fun i => (i.zero, i.size, i.bytes)) = some (some (.int .i64 0), 1, 8) by kernel_rfl)
            simp only [Prod.mk.injEq] at hz
            have HZ := Aside0.mk hz
            have HI := Aside0.mk hi
            clear hz hi
            have HOWN : Aside0 (W.ownsRow w.heap.size 3 1 u pre.length (encs (Value.int .i64) (pre.map (placeOf l0)))) := ⟨by have h := Kd.own_of_R HROWI.out; rw [List.length_map] at h; exact h⟩
            have hWs : w.heap.size ≤ W.heap.size := Nat.le_trans HLE.out.size HSAME.out.size
            gi_wp2_with (gi_at_builtin; refine wpListIn_append_at _ rfl _ _ 22 rfl w.heap.size 3 i0 (.int .i64 0) 1 8 Try.underlying22 HI.out HZ.out.1 HZ.out.2.1 HZ.out.2.2 rfl (by decide) _ _ _ rfl (HOWN.out.alloc _) ⟨W.heap.size, 0, none⟩ 1 1 [.int .i64 q] rfl rfl (cell_one_new _ _ _) (by simp [Value.oneCell']) (by unfold maxLen; omega) (by omega) (by simp only [World.size_alloc]; omega) ?_; intro v2 w2 hown2 hgrow2 hat2; have HO2 := Aside0.mk hown2; have HG2 := Aside0.mk hgrow2; have HA2 := Aside0.mk hat2; obtain ⟨g2, cap2, rfl⟩ := ownsRow_succ hown2; have hb2 := placesInv_box HBX.out (fun e => (HROWI.out.1 _ e).2 rfl) hgrow2; have hcb2 : w2.cell? ⟨w1.heap.size + 1, 0, none⟩ = some u := Boxed.cell (t := 22) hb2; have hfb2 : w2.frozen? ⟨w1.heap.size + 1, 0, none⟩ = false := Boxed.frozen (t := 22) hb2; clear hown2 hgrow2 hat2 hb2)
            exact placesInv_step l0 w wl w1 S pre x u _ W w2 q _ HBX.out hSb HROWI.out HSAME.out hSlt hsubS HE2.out HO2.out HG2.out HA2.out
      case done =>
        rintro D S W hinv hD hK
        have HINV := Aside0.mk (placesInv_put l0 w wl w1 _ _ _ D _ (.deferred none) hinv hK rfl hD)
        have HK := Aside0.mk hK
        obtain ⟨u, hbox, hSb, hrow, hsame⟩ := hinv
        have hcb : W.cell? ⟨w1.heap.size + 1, 0, none⟩ = some u := by simp [World.cell?, hbox]
        have HBX := Aside0.mk hbox
        clear hrow hsame hbox hK
        go_wp2
        refine ⟨by simp, .inl ⟨_, _, rfl, run_takeDeferred HK.out, ?_⟩⟩
        obtain ⟨u2, hbox2, hSb2, hrow2, hsame2⟩ := HINV.out
        have hu : u2 = u := by
          have hlt := (Array.getElem?_eq_some_iff.1 HBX.out).1
          have h1 : (W.putObj D (.deferred none)).heap[w1.heap.size + 1]? = W.heap[w1.heap.size + 1]? := World.putObj_heap_other (by omega)
          rw [h1, HBX.out] at hbox2
          simpa using hbox2.symm
        subst hu
        exact ⟨_, results_tmp2 rfl _ _ _, _, rfl, Kd.R_mono hrow2 (fun _ _ => trivial), HLE.out.trans (hsame2.below (fun k hk => ⟨by omega, by omega, by omega⟩) HLE.out.size)⟩
  · rw [if_neg he] at h
    cases h
    have he1 : (r2 == 0) = false := by simpa using he
    have he2 : (r2 != 0) = true := by simpa using he
    go_enter Try.func15, Try.ntmps15
    go_wp2_with (go_at_call 30; refine (space_measured.calls k A0 c0 l0 a1_0 A1_1 c1_1 l1_1 (fun _ => True) A1_2 c1_2 l1_2 (fun _ => True) A1_3 c1_3 l1_3 (fun _ => True) A1_4 c1_4 l1_4 (fun _ => True) A1_5 c1_5 l1_5 n r2 _ (Kd.C_alloc (Kd.C_alloc HR0.out _) _) HC0.out (Kd.C_alloc (Kd.C_alloc HR1_1.out _) _) HC1_1.out (V_of_ints (Kd.C_alloc (Kd.C_alloc HR1_2.out _) _) HC1_2.out) (V_of_ints (Kd.C_alloc (Kd.C_alloc HR1_3.out _) _) HC1_3.out) (V_of_ints (Kd.C_alloc (Kd.C_alloc HR1_4.out _) _) HC1_4.out) (V_of_ints (Kd.C_alloc (Kd.C_alloc HR1_5.out _) _) HC1_5.out) HM.out).mono ?_; rintro e_ w1 ⟨rfl, hb⟩)
    go_ret2
    exact ⟨_, rfl, Kd.R_nil _ _ _ _ _, ((((Below.refl _ w).alloc (Nat.le_refl _) _).alloc (by simp) _).trans (hb.mono (by simp; omega)))⟩
end


end Go.Proofs.Ytjbjofmcmjojlaa.Wk
