-- Texts that the row SpaceTuples leans on, joined by wip/tools/mkclaim.py: Wk15, Wk16, Wk17, Wk18, Wk19, Wk21, Wk37, Wk38, Wk39, Wk6, Wk24, Wk25, Wk22
import Derived.Test.YtjbjofmcmjojlaaCSpaceTuples1
section
namespace Go.Proofs.Ytjbjofmcmjojlaa.Wk
open Go.RowKit Go.Proofs.YtjbjofmcmjojlaaW.PrintWords Go.Proofs.YtjbjofmcmjojlaaW.PrintLast Go.Proofs.YtjbjofmcmjojlaaW.PrintMore
attribute [local go_sem] max2_int min2_int max_two min_two max_three min_three max_four min_four
set_option linter.unusedVariables false
set_option linter.unusedSimpArgs false
section
open Go.Proofs.YtjbjofmcmjojlaaQ
attribute [local go_sem] Oper.semAt_some
def selN (l0 : List Int) (kind : Int) (cnt blk : List Int) : List Nat := (List.range l0.length).map fun (d : Nat) => if kind = 1 then (rd l0 d).toNat else (rd cnt d * rd blk d).toNat
def selAv (kind : Int) (start stride blk : List Int) (d k : Nat) : Int := if kind = 1 then k else rd start d + (k : Int) / rd blk d * rd stride d + (k : Int) % rd blk d
def selTuples (l0 : List Int) (kind : Int) (pts : List (List Int)) (start stride cnt blk : List Int) : List (List Int) :=
  if kind = 2 then pts else (lexList (selN l0 kind cnt blk)).map (tupAt (selAv kind start stride blk))
def SelOk (l0 : List Int) (kind : Int) (start stride cnt blk : List Int) : Prop :=
  kind = 2 ∨ l0.length ≤ 4 ∧ (kind = 1 ∧ (∀ d : Nat, d < l0.length → 1 ≤ rd l0 d ∧ rd l0 d ≤ 1048576) ∨
    kind ≠ 1 ∧ start.length = l0.length ∧ stride.length = l0.length ∧ cnt.length = l0.length ∧ blk.length = l0.length ∧
      ∀ d : Nat, d < l0.length → 1 ≤ rd cnt d ∧ 1 ≤ rd blk d ∧ rd cnt d * rd blk d ≤ 4096 ∧ 0 ≤ rd start d ∧ 0 ≤ rd stride d ∧ rd start d + (rd cnt d - 1) * rd stride d + rd blk d ≤ 9223372036854775807)
instance (l0 : List Int) (kind : Int) (start stride cnt blk : List Int) : Decidable (SelOk l0 kind start stride cnt blk) := by
  unfold SelOk
  infer_instance
theorem selN_length (l0 : List Int) (kind : Int) (cnt blk : List Int) : (selN l0 kind cnt blk).length = l0.length := by simp [selN]
theorem selN_getD (l0 : List Int) (kind : Int) (cnt blk : List Int) (d : Nat) (h : d < l0.length) : (selN l0 kind cnt blk).getD d 0 = if kind = 1 then (rd l0 d).toNat else (rd cnt d * rd blk d).toNat := by
  simp [selN, List.getD_eq_getElem?_getD, h]
theorem sel_line (l0 : List Int) (a1_0 : Int) (l1_1 : List (List Int)) (l1_2 l1_3 l1_4 l1_5 : List Int) (h2 : a1_0 ≠ 2) (hok : SelOk l0 a1_0 l1_2 l1_3 l1_4 l1_5) (d : Nat) (hd : d < l0.length) :
    (0 < (selN l0 a1_0 l1_4 l1_5).getD d 0 ∧ (selN l0 a1_0 l1_4 l1_5).getD d 0 ≤ 1048576) ∧ ∀ k, k ≤ (selN l0 a1_0 l1_4 l1_5).getD d 0 →
      ∃ x, space_line.f l0 a1_0 l1_1 l1_2 l1_3 l1_4 l1_5 d k = some (x, decide (k < (selN l0 a1_0 l1_4 l1_5).getD d 0)) ∧ (k < (selN l0 a1_0 l1_4 l1_5).getD d 0 → x = selAv a1_0 l1_2 l1_3 l1_5 d k) := by
  rw [selN_getD _ _ _ _ _ hd]
  rcases hok with h | ⟨_, ⟨h1, hdim⟩ | ⟨h1, e2, e3, e4, e5, hb⟩⟩
  · exact absurd h h2
  · subst h1
    have hx := hdim d hd
    rw [if_pos rfl]
    refine ⟨by omega, fun k hk => ⟨k, ?_, fun _ => by simp [selAv]⟩⟩
    unfold space_line.f
    rw [if_pos rfl, if_pos (by omega), if_pos (by omega)]
    congr 2
    rw [decide_eq_decide]
    omega
  · rw [if_neg h1]
    obtain ⟨hc, hbk, hcb, hs, ht, hsum⟩ := hb d hd
    have hmul : 1 * 1 ≤ rd l1_4 d * rd l1_5 d := Int.mul_le_mul hc hbk (by omega) (by omega)
    refine ⟨by omega, fun k hk => ?_⟩
    unfold space_line.f
    rw [if_neg h1, if_pos (by omega), if_pos (by omega), if_neg (by omega), if_pos (by omega), if_pos (by omega), if_pos (by omega)]
    have hq0 : 0 ≤ (k : Int) / rd l1_5 d := Int.ediv_nonneg (by omega) (by omega)
    have hq1 : (k : Int) / rd l1_5 d ≤ k := Int.ediv_le_self _ (by omega)
    have hm0 : 0 ≤ (k : Int) % rd l1_5 d := Int.emod_nonneg _ (by omega)
    have hm1 : (k : Int) % rd l1_5 d < rd l1_5 d := Int.emod_lt_of_pos _ (by omega)
    have e1 : Int.tdiv (k : Int) (rd l1_5 d) = (k : Int) / rd l1_5 d := Int.tdiv_eq_ediv_of_nonneg (by omega)
    have e6 : Int.tmod (k : Int) (rd l1_5 d) = (k : Int) % rd l1_5 d := Int.tmod_eq_emod_of_nonneg (by omega)
    have w1 : wrap64 ((k : Int) / rd l1_5 d) = (k : Int) / rd l1_5 d := by unfold wrap64; omega
    rw [e1, e6, w1]
    refine ⟨_, by
      congr 2
      rw [decide_eq_decide, Int.ediv_lt_iff_lt_mul (by omega)]
      omega, fun hlt => ?_⟩
    have hlt2 : (k : Int) / rd l1_5 d < rd l1_4 d := by
      rw [Int.ediv_lt_iff_lt_mul (by omega)]
      omega
    have hp0 : 0 ≤ (k : Int) / rd l1_5 d * rd l1_3 d := Int.mul_nonneg hq0 ht
    have hp1 : (k : Int) / rd l1_5 d * rd l1_3 d ≤ (rd l1_4 d - 1) * rd l1_3 d := Int.mul_le_mul_of_nonneg_right (by omega) ht
    have w2 : wrap64 ((k : Int) / rd l1_5 d * rd l1_3 d) = (k : Int) / rd l1_5 d * rd l1_3 d := by unfold wrap64; omega
    rw [w2]
    have w3 : wrap64 (rd l1_2 d + (k : Int) / rd l1_5 d * rd l1_3 d) = rd l1_2 d + (k : Int) / rd l1_5 d * rd l1_3 d := by unfold wrap64; omega
    rw [w3]
    have w4 : wrap64 (rd l1_2 d + (k : Int) / rd l1_5 d * rd l1_3 d + (k : Int) % rd l1_5 d) = rd l1_2 d + (k : Int) / rd l1_5 d * rd l1_3 d + (k : Int) % rd l1_5 d := by unfold wrap64; omega
    rw [w4]
    unfold selAv
    rw [if_neg h1]
theorem sel_hands (A0 : Option Addr) (c0 : Nat) (l0 : List Int) (a1_0 : Int) (A1_1 : Option Addr) (c1_1 : Nat) (l1_1 : List (List Int)) (A1_2 : Option Addr) (c1_2 : Nat) (l1_2 : List Int) (A1_3 : Option Addr) (c1_3 : Nat) (l1_3 : List Int) (A1_4 : Option Addr) (c1_4 : Nat) (l1_4 : List Int) (A1_5 : Option Addr) (c1_5 : Nat) (l1_5 : List Int) (Bs Bd : Nat) (S0 : Nat → Prop) (wl : World) (hok : SelOk l0 a1_0 l1_2 l1_3 l1_4 l1_5)
    (hsel : ∀ W, SameOn S0 wl W → SelMem W Bs Bd A0 c0 l0 a1_0 A1_1 c1_1 l1_1 A1_2 c1_2 l1_2 A1_3 c1_3 l1_3 A1_4 c1_4 l1_4 A1_5 c1_5 l1_5) (hS0 : ∀ k, S0 k → k < wl.heap.size) :
    Hands Try.prog 42 #[.pointer (some ⟨Bs, 0, none⟩), .pointer (some ⟨Bd, 0, none⟩)] RdI (selTuples l0 a1_0 l1_1 l1_2 l1_3 l1_4 l1_5) S0 wl := by
  by_cases h2 : a1_0 = 2
  · subst h2
    unfold selTuples
    rw [if_pos rfl]
    exact each1_points Bs Bd A1_1 c1_1 l1_1 S0 wl hS0 (fun W hW => ⟨(hsel W hW).k0, (hsel W hW).k1, (hsel W hW).r1⟩)
  · unfold selTuples
    rw [if_neg h2]
    have h4 : l0.length ≤ 4 := by
      rcases hok with h | ⟨h, _⟩
      · exact absurd h h2
      · exact h
    have hN := selN_length l0 a1_0 l1_4 l1_5
    have hl := sel_line l0 a1_0 l1_1 l1_2 l1_3 l1_4 l1_5 h2 hok
    refine each1_steps Bs Bd A0 c0 l0 a1_0 A1_1 c1_1 l1_1 A1_2 c1_2 l1_2 A1_3 c1_3 l1_3 A1_4 c1_4 l1_4 A1_5 c1_5 l1_5 S0 wl hsel hS0 h2 (selN l0 a1_0 l1_4 l1_5) hN (by omega) (selAv a1_0 l1_2 l1_3 l1_5) (fun d hd => (hl d (by omega)).2) (fun d hd => (hl d (by omega)).1.1) ?_ _ (odo_lex _ (fun d hd => (hl d (by omega)).1.1))
    intro d
    by_cases hd : d < l0.length
    · exact (hl d hd).1.2
    · rw [List.getD_eq_getElem?_getD, List.getElem?_eq_none (by omega)]
      simp
def placeW (l0 x : List Int) : Nat → Nat → Int → Int
  | 0, _, p => p
  | n + 1, d, p => placeW l0 x n (d + 1) (wrap64 (wrap64 (p * rd l0 d) + rd x d))
def placeOf (l0 x : List Int) : Int := placeW l0 x x.length 0 0
def space_Places.f (k : Nat) (l0 : List Int) (a1_0 : Int) (l1_1 : List (List Int)) (l1_2 : List Int) (l1_3 : List Int) (l1_4 : List Int) (l1_5 : List Int) : Option (List Int × Int) :=
  (space_measured.f k l0 a1_0 l1_1 l1_2 l1_3 l1_4 l1_5).bind fun r =>
    if r.2 = 0 then (if r.1 = 0 then some ([], 0) else if SelOk l0 a1_0 l1_2 l1_3 l1_4 l1_5 ∧ (selTuples l0 a1_0 l1_1 l1_2 l1_3 l1_4 l1_5).length ≤ 4096 ∧ (∀ x ∈ selTuples l0 a1_0 l1_1 l1_2 l1_3 l1_4 l1_5, x.length ≤ l0.length) ∧ 0 ≤ r.1 ∧ r.1 ≤ 4096 then some ((selTuples l0 a1_0 l1_1 l1_2 l1_3 l1_4 l1_5).map (placeOf l0), 0) else none)
    else some ([], r.2)
theorem space_Places.mono : ∀ a0 a1 a2 a3 a4 a5 a6 k, LeO (space_Places.f k a0 a1 a2 a3 a4 a5 a6) (space_Places.f (k + 1) a0 a1 a2 a3 a4 a5 a6) := by
  intro a0 a1 a2 a3 a4 a5 a6 k
  unfold space_Places.f
  exact LeO.bind (space_measured.mono _ _ _ _ _ _ _ _) (fun _ => LeO.refl _)
theorem two_boxes {w w1 : World} {a b : Array Value} {s t : TypeId} (hb : Below ((w.alloc (.cells a s)).alloc (.cells b t)).heap.size ((w.alloc (.cells a s)).alloc (.cells b t)) w1) :
    w1.heap[w.heap.size]? = some (.cells a s (0, 0)) ∧ w1.heap[w.heap.size + 1]? = some (.cells b t (0, 0)) ∧ Below w.heap.size w w1 := by
  have h1 := World.alloc_heap_new w (.cells a s)
  have h2 := World.alloc_heap_new (w.alloc (.cells a s)) (.cells b t)
  rw [World.size_alloc] at h2
  refine ⟨?_, ?_, ?_⟩
  · rw [hb.block _ (by simp only [World.size_alloc]; omega), Below.heap_alloc _ _ _ (by simp only [World.size_alloc]; omega), h1]
  · rw [hb.block _ (by simp only [World.size_alloc]; omega), h2]
  · exact ((((Below.refl _ w).alloc (Nat.le_refl _) _).alloc (by simp only [World.size_alloc]; omega) _).trans (hb.mono (by simp only [World.size_alloc]; omega)))
theorem cell_two {w1 : World} {B : Nat} {a : Array Value} {t : TypeId} (h : w1.heap[B]? = some (.cells a t (0, 0))) (j : Nat) {v : Value} (hv : a[j]? = some v) (o o' : Obj) : ((w1.alloc o).alloc o').cell? ⟨B, j, none⟩ = some v := by
  have h0 : w1.cell? ⟨B, j, none⟩ = some v := by simp [World.cell?, h, hv]
  have hb : Below w1.heap.size w1 ((w1.alloc o).alloc o') := ((Below.refl _ w1).alloc (Nat.le_refl _) o).alloc (by simp only [World.size_alloc]; omega) o'
  exact pw_cell_below hb h0
theorem four_allocs (w : World) (a b c d : Obj) : ((((w.alloc a).alloc b).alloc c).alloc d).heap[w.heap.size]? = some a ∧ ((((w.alloc a).alloc b).alloc c).alloc d).heap[w.heap.size + 1]? = some b ∧
    ((((w.alloc a).alloc b).alloc c).alloc d).heap[w.heap.size + 1 + 1]? = some c ∧ ((((w.alloc a).alloc b).alloc c).alloc d).heap[w.heap.size + 1 + 1 + 1]? = some d ∧ Below w.heap.size w ((((w.alloc a).alloc b).alloc c).alloc d) ∧
    ((((w.alloc a).alloc b).alloc c).alloc d).heap.size = w.heap.size + 4 := by
  have h1 := World.alloc_heap_new w a
  have h2 := World.alloc_heap_new (w.alloc a) b
  have h3 := World.alloc_heap_new ((w.alloc a).alloc b) c
  have h4 := World.alloc_heap_new (((w.alloc a).alloc b).alloc c) d
  simp only [World.size_alloc] at h2 h3 h4
  refine ⟨?_, ?_, ?_, h4, ?_, by simp⟩
  · rw [Below.heap_alloc _ _ _ (by simp only [World.size_alloc]; omega), Below.heap_alloc _ _ _ (by simp only [World.size_alloc]; omega), Below.heap_alloc _ _ _ (by simp only [World.size_alloc]; omega), h1]
  · rw [Below.heap_alloc _ _ _ (by simp only [World.size_alloc]; omega), Below.heap_alloc _ _ _ (by simp only [World.size_alloc]; omega), h2]
  · rw [Below.heap_alloc _ _ _ (by simp only [World.size_alloc]; omega), h3]
  · exact ((((Below.refl _ w).alloc (Nat.le_refl _) a).alloc (by rw [World.size_alloc]; omega) b).alloc (by simp only [World.size_alloc]; omega) c).alloc (by simp only [World.size_alloc]; omega) d
def placesS (wl w1 : World) (k : Nat) : Prop := k < wl.heap.size ∧ k ≠ w1.heap.size + 1 ∧ k ≠ w1.heap.size
def PlacesInv (l0 : List Int) (w wl w1 : World) (S : Nat → Prop) (pre : List (List Int)) (W : World) : Prop :=
  ∃ v, W.heap[w1.heap.size + 1]? = some (.cells #[v] 22 (0, 0)) ∧ ¬ S (w1.heap.size + 1) ∧ (Kd.int .i64).R 3 W w.heap.size (fun k => ¬ S k ∧ k ≠ w1.heap.size + 1) v (pre.map (placeOf l0)) ∧ SameOn (placesS wl w1) wl W
theorem placesInv_bears (l0 : List Int) (w wl w1 : World) : Bears (placesS wl w1) (PlacesInv l0 w wl w1) where
  step := by
    rintro S pre A B ⟨v, h1, h2, h3, h4⟩ hs
    have hlt := (Array.getElem?_eq_some_iff.1 h1).1
    exact ⟨v, (hs.same _ (.inl h2) hlt).trans h1, h2, Kd.R_step h3 (fun k hk hl => hs.same k (.inl hk.1) hl), h4.trans (hs.mono (fun k h => .inr h))⟩
  more := by
    rintro S T pre A ⟨v, h1, h2, h3, h4⟩ ht
    have hlt := (Array.getElem?_eq_some_iff.1 h1).1
    refine ⟨v, h1, ?_, Kd.R_mono (Kd.R_bound h3) (fun k hk => ⟨?_, hk.1.2⟩), h4⟩
    · rintro (h | h)
      · exact h2 h
      · have := ht _ h; omega
    · rintro (h | h)
      · exact hk.1.1 h
      · have := ht _ h; have := hk.2.2.1; omega
theorem placesInv_put (l0 : List Int) (w wl w1 : World) : ∀ S pre A (l : Nat) (o o' : Obj), PlacesInv l0 w wl w1 S pre A → A.heap[l]? = some o → o.isCells = false → wl.heap.size ≤ l → PlacesInv l0 w wl w1 S pre (A.putObj l o') := by
  rintro S pre A l o o' ⟨v, h1, h2, h3, h4⟩ hl ho hle
  refine ⟨v, ?_, h2, Kd.R_mono (Kd.R_step (Kd.R_bound h3) (fun k hk _ => ?_)) (fun k hk => hk.1), h4.trans (SameOn.putObj _ _ _ (fun h => by have := h.1; omega))⟩
  · rw [World.putObj_heap_other]
    · exact h1
    · rintro rfl
      rw [h1] at hl
      cases hl
      cases ho
  · refine World.putObj_heap_other ?_
    rintro rfl
    obtain ⟨_, _, _, q, _, cs, hc⟩ := hk
    rw [hc] at hl
    cases hl
    cases ho
theorem RdI_put : ∀ (x : List Int) (v : Value) (A : World) (l : Nat) (o o' : Obj), RdI x v A → A.heap[l]? = some o → o.isCells = false → RdI x v (A.putObj l o') := by
  rintro x v A l o o' ⟨a, c, rfl, hc, h⟩ hl ho
  refine ⟨a, c, rfl, hc, ?_⟩
  have hr := Kd.reads_of_C (d := (0 : Int)) (h1 := fun _ => rfl) h
  refine Kd.C_of_reads (d := (0 : Int)) (h1 := fun _ => rfl) ⟨hr.1, hr.2.1, fun hn => ?_⟩
  obtain ⟨ad, e1, hcc⟩ := hr.2.2 hn
  refine ⟨ad, e1, fun j hj => ?_⟩
  have hcj := hcc j hj
  unfold World.cell? at hcj ⊢
  rw [World.putObj_heap_other]
  · exact hcj
  · intro e
    rw [e, hl] at hcj
    cases o <;> first | (simp at hcj; done) | (simp [Obj.isCells] at ho; done)
theorem placesInv_box {W w2 : World} {Bo : Nat} {u : Value} {T : Obj} (hbox : W.heap[Bo]? = some (.cells #[u] 22 (0, 0))) {row : Option Nat} (hne : row ≠ some Bo) (hg : (W.alloc T).grownBy w2 row) : w2.heap[Bo]? = some (.cells #[u] 22 (0, 0)) := by
  have hlt := (Array.getElem?_eq_some_iff.1 hbox).1
  rw [hg.block Bo (by rw [World.size_alloc]; omega) (fun e => hne e.symm), Below.heap_alloc _ _ _ hlt, hbox]
theorem placesInv_step (l0 : List Int) (w wl w1 : World) (S : Nat → Prop) (pre : List (List Int)) (x : List Int) (u v2 : Value) (W w2 : World) (q : Int) (T : Obj)
    (hbox : W.heap[w1.heap.size + 1]? = some (.cells #[u] 22 (0, 0))) (hSb : ¬ S (w1.heap.size + 1)) (hrow : (Kd.int .i64).R 3 W w.heap.size (fun k => ¬ S k ∧ k ≠ w1.heap.size + 1) u (pre.map (placeOf l0)))
    (hsame : SameOn (placesS wl w1) wl W) (hS : ∀ k, S k → k < W.heap.size) (hsub : ∀ k, placesS wl w1 k → S k) (hq : q = placeOf l0 x)
    (ho : w2.ownsRow w.heap.size 3 1 v2 (pre.length + 1) (encs (Value.int .i64) (pre.map (placeOf l0)) ++ [.int .i64 q])) (hg : (W.alloc T).grownBy w2 u.ownBlock)
    (ha : v2.ownBlock = u.ownBlock ∨ v2.ownBlock = some (W.alloc T).heap.size) :
    KeepsOthers W (w2.setCell ⟨w1.heap.size + 1, 0, none⟩ v2) ∧ PlacesInv l0 w wl w1 S (pre ++ [x]) (w2.setCell ⟨w1.heap.size + 1, 0, none⟩ v2) ∧ SameOn S W (w2.setCell ⟨w1.heap.size + 1, 0, none⟩ v2) := by
  have hlt := (Array.getElem?_eq_some_iff.1 hbox).1
  have hne : u.ownBlock ≠ some (w1.heap.size + 1) := fun e => (hrow.1 _ e).2 rfl
  have hb2 := placesInv_box hbox hne hg
  have hbel : Below 0 (W.alloc T) w2 := (Below.refl 0 _).grown hg (Nat.zero_le _) (fun k _ => Nat.zero_le _)
  have hs : SameOn S W (w2.setCell ⟨w1.heap.size + 1, 0, none⟩ v2) :=
    ((SameOn.alloc S W T).trans (SameOn.of_grown hg hbel (fun k e => (hrow.1 _ e).1))).trans (SameOn.setCell _ _ _ hSb)
  refine ⟨?_, ⟨v2, ?_, hSb, ?_, hsame.trans (hs.mono hsub)⟩, hs⟩
  · refine ((KeepsOthers.alloc W T).trans (KeepsOthers.of_grownBy hg (fun j o e hj => ?_))).trans (KeepsOthers.setCell _ _ _)
    obtain ⟨cells, hc⟩ := own_typed (Kd.own_of_R hrow) j e
    have hj2 := (Array.getElem?_eq_some_iff.1 hc).1
    rw [Below.heap_alloc _ _ _ hj2, hc] at hj
    cases hj
    rfl
  · have := Boxed.set (t := 22) v2 hb2
    exact this
  · have h1 : (Kd.int .i64).R 3 w2 w.heap.size (fun k => ¬ S k ∧ k ≠ w1.heap.size + 1) v2 ((pre ++ [x]).map (placeOf l0)) := by
      refine Kd.R_of_own ?_ (fun k hk => ?_)
      · rw [List.map_append, List.map_cons, List.map_nil, ← hq, List.length_append, List.length_map, encs_append]
        exact ho
      · rcases ha with e | e
        · exact hrow.1 k (by rw [← e]; exact hk)
        · rw [e, World.size_alloc] at hk
          cases hk
          exact ⟨fun h => by have := hS _ h; omega, by omega⟩
    exact Kd.R_far h1 (fun k hk => hk.2) _
set_option maxHeartbeats 8000000 in
set_option maxRecDepth 100000 in
theorem space_Places.calls (k : Nat) (A0 : Option Addr) (c0 : Nat) (l0 : List Int) (a1_0 : Int) (A1_1 : Option Addr) (c1_1 : Nat) (l1_1 : List (List Int)) (A1_2 : Option Addr) (c1_2 : Nat) (l1_2 : List Int) (A1_3 : Option Addr) (c1_3 : Nat) (l1_3 : List Int) (A1_4 : Option Addr) (c1_4 : Nat) (l1_4 : List Int) (A1_5 : Option Addr) (c1_5 : Nat) (l1_5 : List Int) (r1 : List Int) (r2 : Int) (w : World) (hr0 : Kd.C (Kd.int .i64) w A0 l0.length l0) (hc0 : l0.length ≤ c0) (hr1_1 : Kd.C (Kd.slice 3 (Kd.int .i64)) w A1_1 l1_1.length l1_1) (hc1_1 : l1_1.length ≤ c1_1) (hr1_2 : Kd.C (Kd.int .i64) w A1_2 l1_2.length l1_2) (hc1_2 : l1_2.length ≤ c1_2) (hr1_3 : Kd.C (Kd.int .i64) w A1_3 l1_3.length l1_3) (hc1_3 : l1_3.length ≤ c1_3) (hr1_4 : Kd.C (Kd.int .i64) w A1_4 l1_4.length l1_4) (hc1_4 : l1_4.length ≤ c1_4) (hr1_5 : Kd.C (Kd.int .i64) w A1_5 l1_5.length l1_5) (hc1_5 : l1_5.length ≤ c1_5) (h : space_Places.f k l0 a1_0 l1_1 l1_2 l1_3 l1_4 l1_5 = some (r1, r2)) :
    Calls Try.prog 15 #[.slice A0 l0.length c0, .agg #[.int .i64 a1_0, .slice A1_1 l1_1.length c1_1, .slice A1_2 l1_2.length c1_2, .slice A1_3 l1_3.length c1_3, .slice A1_4 l1_4.length c1_4, .slice A1_5 l1_5.length c1_5]] w fun e w' => ∃ v0_ : Value, e = .returned (.tuple #[v0_, .int .i64 r2]) ∧ Kd.R (Kd.int .i64) 3 w' w.heap.size (fun _ => True) v0_ r1 ∧ Below w.heap.size w w' := by
  unfold space_Places.f at h
  obtain ⟨⟨n, e⟩, hm, h⟩ := Option.bind_eq_some_iff.mp h
  have HM := Aside0.mk hm
  have HR0 := Aside0.mk hr0
  have HC0 := Aside0.mk hc0
  have HR1_1 := Aside0.mk hr1_1
  have HC1_1 := Aside0.mk hc1_1
  have HR1_2 := Aside0.mk hr1_2
  have HC1_2 := Aside0.mk hc1_2
  have HR1_3 := Aside0.mk hr1_3
  have HC1_3 := Aside0.mk hc1_3
  have HR1_4 := Aside0.mk hr1_4
  have HC1_4 := Aside0.mk hc1_4
  have HR1_5 := Aside0.mk hr1_5
  have HC1_5 := Aside0.mk hc1_5
  clear hm hr0 hc0 hr1_1 hc1_1 hr1_2 hc1_2 hr1_3 hc1_3 hr1_4 hc1_4 hr1_5 hc1_5
  have hu33 := Try.underlying33
  simp only at h
  by_cases he : e = 0
  · subst he
    rw [if_pos rfl] at h
    by_cases hn : n = 0
    · subst hn
      rw [if_pos rfl] at h
      cases h
      go_enter Try.func15, Try.ntmps15
      go_wp2_with (go_at_call 30; refine (space_measured.calls k A0 c0 l0 a1_0 A1_1 c1_1 l1_1 (fun _ => True) A1_2 c1_2 l1_2 (fun _ => True) A1_3 c1_3 l1_3 (fun _ => True) A1_4 c1_4 l1_4 (fun _ => True) A1_5 c1_5 l1_5 0 0 _ (Kd.C_alloc (Kd.C_alloc HR0.out _) _) HC0.out (Kd.C_alloc (Kd.C_alloc HR1_1.out _) _) HC1_1.out (V_of_ints (Kd.C_alloc (Kd.C_alloc HR1_2.out _) _) HC1_2.out) (V_of_ints (Kd.C_alloc (Kd.C_alloc HR1_3.out _) _) HC1_3.out) (V_of_ints (Kd.C_alloc (Kd.C_alloc HR1_4.out _) _) HC1_4.out) (V_of_ints (Kd.C_alloc (Kd.C_alloc HR1_5.out _) _) HC1_5.out) HM.out).mono ?_; rintro e_ w1 ⟨rfl, hb⟩)
      go_ret2
      exact ⟨_, rfl, Kd.R_nil _ _ _ _ _, ((((Below.refl _ w).alloc (Nat.le_refl _) _).alloc (by simp) _).trans (hb.mono (by simp; omega)))⟩
    · rw [if_neg hn] at h
      split at h
      case isFalse => cases h
      case isTrue hq =>
      cases h
      obtain ⟨hok, hlen, hsub, hn0, hn1⟩ := hq
      have HOK := Aside0.mk hok
      have HLEN := Aside0.mk hlen
      have HSUB := Aside0.mk hsub
      clear hok hlen hsub
      have hnb : (n == 0) = false := by simpa using hn
      have hmk : ∀ W : World, (Instr.makeSlice 22 (.int .i64 0) (.int .i64 n)).run Try.prog W = .ok (.slice (some ⟨W.heap.size, 0, none⟩) 0 n.toNat) (W.alloc (.cells (madeCells #[.int .i64 0] n.toNat) 3)) := fun W => by
        obtain ⟨i0, hi, hz⟩ := Option.map_eq_some_iff.1 (show (Try.prog.info? 3).map (fun i => (i.zero, i.size, i.bytes)) = some (some (.int .i64 0), 1, 8) by kernel_rfl)
        simp only [Prod.mk.injEq] at hz
        have := run_make (P := Try.prog) (w := W) 22 3 i0 (.int .i64 0) Try.underlying22 hi hz.1 .i64 .i64 0 n (by omega) hn0 (by rw [hz.2.2]; omega) (by omega)
        rw [hz.2.1] at this
        simpa [Value.cells] using this
      refine (callsIn_wide (n := 0)).1 (callsIn_of_wp_marks Try.func15 rfl trivial (wpIn_wide.2 ?_) rfl)
      simp only [Try.ntmps15, List.size_toArray, List.length_cons, List.length_nil, Nat.reduceAdd, Nat.reduceSub, Array.replicate_succ, Array.replicate_zero, List.push_toArray, List.append_toArray, List.nil_append, List.cons_append]
      go_wp2_with (first
        | (go_at_call 30; refine (space_measured.calls k A0 c0 l0 a1_0 A1_1 c1_1 l1_1 (fun _ => True) A1_2 c1_2 l1_2 (fun _ => True) A1_3 c1_3 l1_3 (fun _ => True) A1_4 c1_4 l1_4 (fun _ => True) A1_5 c1_5 l1_5 n 0 _ (Kd.C_alloc (Kd.C_alloc HR0.out _) _) HC0.out (Kd.C_alloc (Kd.C_alloc HR1_1.out _) _) HC1_1.out (V_of_ints (Kd.C_alloc (Kd.C_alloc HR1_2.out _) _) HC1_2.out) (V_of_ints (Kd.C_alloc (Kd.C_alloc HR1_3.out _) _) HC1_3.out) (V_of_ints (Kd.C_alloc (Kd.C_alloc HR1_4.out _) _) HC1_4.out) (V_of_ints (Kd.C_alloc (Kd.C_alloc HR1_5.out _) _) HC1_5.out) HM.out).mono ?_; rintro e_ w1 ⟨rfl, hb⟩; obtain ⟨hbd, hbs, hbw⟩ := two_boxes hb; have HBD := Aside0.mk hbd; have HBS := Aside0.mk hbs; have HBW := Aside0.mk hbw; clear hbd hbs hbw hb; have hcd := fun o o' => cell_two HBD.out 0 rfl o o'; have hk0 := fun o o' => cell_two HBS.out 0 rfl o o'; have hk1 := fun o o' => cell_two HBS.out 1 rfl o o'; have hk2 := fun o o' => cell_two HBS.out 2 rfl o o'; have hk3 := fun o o' => cell_two HBS.out 3 rfl o o'; have hk4 := fun o o' => cell_two HBS.out 4 rfl o o'; have hk5 := fun o o' => cell_two HBS.out 5 rfl o o')
        | (go_at_call 31; refine (space_each A0 c0 l0 a1_0 A1_1 c1_1 l1_1 A1_2 c1_2 l1_2 A1_3 c1_3 l1_3 A1_4 c1_4 l1_4 A1_5 c1_5 l1_5 _).mono ?_; rintro e_ w2 ⟨rfl, rfl⟩))
      obtain ⟨g1, g2, g3, g4, g5, g6⟩ := four_allocs w1 (.cells (madeCells #[.int .i64 0] n.toNat) 3) (.cells #[.slice (some ⟨w1.heap.size, 0, none⟩) 0 n.toNat] 22) (.cells #[.slice A0 l0.length c0] 22) (.cells #[.int .i64 a1_0, .slice A1_1 l1_1.length c1_1, .slice A1_2 l1_2.length c1_2, .slice A1_3 l1_3.length c1_3, .slice A1_4 l1_4.length c1_4, .slice A1_5 l1_5.length c1_5] 33)
      generalize ((((w1.alloc (.cells (madeCells #[.int .i64 0] n.toNat) 3)).alloc (.cells #[.slice (some ⟨w1.heap.size, 0, none⟩) 0 n.toNat] 22)).alloc (.cells #[.slice A0 l0.length c0] 22)).alloc (.cells #[.int .i64 a1_0, .slice A1_1 l1_1.length c1_1, .slice A1_2 l1_2.length c1_2, .slice A1_3 l1_3.length c1_3, .slice A1_4 l1_4.length c1_4, .slice A1_5 l1_5.length c1_5] 33)) = wl at g1 g2 g3 g4 g5 g6 ⊢
      have hw1 := HBW.out.size
      have hw2 := (Array.getElem?_eq_some_iff.1 HBS.out).1
      have hbl : Below w.heap.size w wl := HBW.out.trans (g5.mono hw1)
      have hsub0 : ∀ k, k < w.heap.size → placesS wl w1 k := fun k hk => ⟨by omega, by omega, by omega⟩
      have HSEL : Aside0 (∀ W, SameOn (placesS wl w1) wl W → SelMem W (w1.heap.size + 1 + 1 + 1) (w1.heap.size + 1 + 1) A0 c0 l0 a1_0 A1_1 c1_1 l1_1 A1_2 c1_2 l1_2 A1_3 c1_3 l1_3 A1_4 c1_4 l1_4 A1_5 c1_5 l1_5) := ⟨fun W hW =>
        selMem_of A0 c0 l0 a1_0 A1_1 c1_1 l1_1 A1_2 c1_2 l1_2 A1_3 c1_3 l1_3 A1_4 c1_4 l1_4 A1_5 c1_5 l1_5 w W _ _ (hbl.trans (hW.below hsub0 hbl.size)) ((hW.same _ ⟨by omega, by omega, by omega⟩ (by omega)).trans g3) ((hW.same _ ⟨by omega, by omega, by omega⟩ (by omega)).trans g4) HR0.out HC0.out HR1_1.out HC1_1.out HR1_2.out HC1_2.out HR1_3.out HC1_3.out HR1_4.out HC1_4.out HR1_5.out HC1_5.out⟩
      have HDIM : Aside0 (∀ W, SameOn (placesS wl w1) wl W → W.cell? ⟨w.heap.size, 0, none⟩ = some (.slice A0 l0.length c0) ∧ (Kd.int .i64).C W A0 l0.length l0) := ⟨fun W hW => by
        have h1 : W.heap[w.heap.size]? = some (.cells #[.slice A0 l0.length c0] 22 (0, 0)) := (hW.same _ ⟨by omega, by omega, by omega⟩ (by omega)).trans ((g5.block _ (by omega)).trans HBD.out)
        exact ⟨by simp [World.cell?, h1], Kd.C_below HR0.out (hbl.trans (hW.below hsub0 hbl.size))⟩⟩
      have HROW : Aside0 ((Kd.int .i64).R 3 wl w.heap.size (fun k => ¬ placesS wl w1 k ∧ k ≠ w1.heap.size + 1) (.slice (some ⟨w1.heap.size, 0, none⟩) 0 n.toNat) []) := ⟨Kd.R_of_own (xs := []) ⟨rfl, .inr ⟨_, _, _, rfl, by omega, g1, Nat.zero_le _, by unfold maxLen; omega, by simp [size_madeCells], rfl⟩⟩ (fun k hk => by
        have : w1.heap.size = k := by simpa [Value.ownBlock] using hk
        subst this
        exact ⟨fun h => h.2.2 rfl, by omega⟩)⟩
      have HLE : Aside0 (Below w.heap.size w wl) := ⟨hbl⟩
      have hwlz : w1.heap.size + 4 = wl.heap.size := g6.symm
      clear hcd hk0 hk1 hk2 hk3 hk4 hk5 g1 g3 g4 g5 g6 hbl hsub0 hmk HBD HBS HBW
      refine wp_rangeMem (gf := 42) rfl (fun _ _ => rfl) (sel_hands A0 c0 l0 a1_0 A1_1 c1_1 l1_1 A1_2 c1_2 l1_2 A1_3 c1_3 l1_3 A1_4 c1_4 l1_4 A1_5 c1_5 l1_5 _ _ _ wl HOK.out HSEL.out (fun k h => h.1)) (fun k h => h.1)
        (PlacesInv l0 w wl w1) (placesInv_bears l0 w wl w1) (placesInv_put l0 w wl w1) RdI_put ⟨_, g2, fun h => h.2.1 rfl, HROW.out, SameOn.refl _ _⟩
        (fun v => { tmps := #[.slice A0 l0.length c0, .agg #[.int .i64 a1_0, .slice A1_1 l1_1.length c1_1, .slice A1_2 l1_2.length c1_2, .slice A1_3 l1_3.length c1_3, .slice A1_4 l1_4.length c1_4, .slice A1_5 l1_5.length c1_5], .pointer (some ⟨w.heap.size, 0, none⟩), .pointer (some ⟨w.heap.size + 1, 0, none⟩), .slice none 0 0, .int .i64 0, .int .i64 n, .int .i64 0, .pointer (some ⟨w1.heap.size + 1, 0, none⟩), v, undef, undef, undef, .tuple #[.int .i64 n, .int .i64 0], .slice A0 l0.length c0, .agg #[.int .i64 a1_0, .slice A1_1 l1_1.length c1_1, .slice A1_2 l1_2.length c1_2, .slice A1_3 l1_3.length c1_3, .slice A1_4 l1_4.length c1_4, .slice A1_5 l1_5.length c1_5], .tuple #[.int .i64 n, .int .i64 0], .int .i64 n, .int .i64 0, .int .i64 0, .bool false, .bool false, .int .i64 n, .bool false, .bool false, undef, .int .i64 n, .slice (some ⟨w1.heap.size, 0, none⟩) 0 n.toNat, .slice A0 l0.length c0, .agg #[.int .i64 a1_0, .slice A1_1 l1_1.length c1_1, .slice A1_2 l1_2.length c1_2, .slice A1_3 l1_3.length c1_3, .slice A1_4 l1_4.length c1_4, .slice A1_5 l1_5.length c1_5], .func (.func 42) #[] #[.pointer (some ⟨w1.heap.size + 1 + 1 + 1, 0, none⟩), .pointer (some ⟨w1.heap.size + 1 + 1, 0, none⟩)], v, undef, undef, undef, undef, undef, undef, undef, undef, undef, undef, undef, undef, undef, undef, undef, undef, undef, undef, undef, undef, undef], defers := [] }) ?assign ?body ?done
      case assign =>
        intro l v W m K hK
        gi_wp2
        exact hK
      case body =>
        rintro l m S pre x v W ⟨u, hbox, hSb, hrow, hsame⟩ hsubS hSlt hpre ⟨A, c, rfl, hcx, hC⟩
        have hmem := hpre.subset (List.mem_append_right pre (List.mem_singleton.2 rfl))
        have hlen : x.length ≤ l0.length := HSUB.out _ hmem
        have hpl : pre.length + 1 ≤ 4096 := by
          have := hpre.length_le
          rw [List.length_append] at this
          have h2 := HLEN.out
          simp at this
          omega
        clear hmem
        have hxm := Kd.C_max hC
        obtain ⟨hcd, hCd⟩ := HDIM.out W hsame
        have HC := Aside0.mk hC
        have HCD := Aside0.mk hCd
        have HBX := Aside0.mk hbox
        have HROWI := Aside0.mk hrow
        have HSAME := Aside0.mk hsame
        clear hC hCd hbox hrow hsame
        gi_wp2
        gi_loop [10, 34] (fun p i => ∃ (d : Nat) (q : Int), d ≤ x.length ∧ i = .int .i64 d ∧ p = .int .i64 q ∧ Aside0 (placeW l0 x (x.length - d) d q = placeOf l0 x)) (fun _ i => x.length - (intOf i).toNat)
        case atStart => exact ⟨0, 0, Nat.zero_le _, rfl, rfl, ⟨rfl⟩⟩
        case round =>
          obtain ⟨d, q, hd, rfl, rfl, HE⟩ := hrel
          by_cases hlt : d < x.length
          · obtain ⟨ad, e1, hx0⟩ := Kd.at_int HC.out d (by omega) (by omega)
            obtain ⟨ad2, e2, hx2⟩ := Kd.at_int HCD.out d (by omega) (by omega)
            cases e1
            cases e2
            have hx : W.cell? (ad.add d) = some (Value.int IntKind.i64 (rd x d)) := by simpa using hx0
            have hy : W.cell? (ad2.add d) = some (Value.int IntKind.i64 (rd l0 d)) := by simpa using hx2
            clear hx0 hx2
            have HE2 : Aside0 (placeW l0 x (x.length - (d + 1)) (d + 1) (wrap64 (wrap64 (q * rd l0 d) + rd x d)) = placeOf l0 x) := ⟨by
              rw [← HE.out, show x.length - d = (x.length - (d + 1)) + 1 by omega, placeW]⟩
            have hdl : d < l0.length := by omega
            gi_wp2
            go_round
            case rel => exact ⟨d + 1, _, by omega, by simp, rfl, HE2⟩
            case measure => simp [intOf]; omega
          · obtain rfl : d = x.length := by omega
            have HE2 : Aside0 (q = placeOf l0 x) := ⟨by have := HE.out; rwa [Nat.sub_self, placeW] at this⟩
            have hcb : W.cell? ⟨w1.heap.size + 1, 0, none⟩ = some u := by simp [World.cell?, HBX.out]
            obtain ⟨i0, hi, hz⟩ := Option.map_eq_some_iff.1 (show (Try.prog.info? 3).map (fun i => (i.zero, i.size, i.bytes)) = some (some (.int .i64 0), 1, 8) by kernel_rfl)
            simp only [Prod.mk.injEq] at hz
            have HZ := Aside0.mk hz
            have HI := Aside0.mk hi
            clear hz hi
            have HOWN : Aside0 (W.ownsRow w.heap.size 3 1 u pre.length (encs (Value.int .i64) (pre.map (placeOf l0)))) := ⟨by have h := Kd.own_of_R HROWI.out; rw [List.length_map] at h; exact h⟩
            have hWs : w.heap.size ≤ W.heap.size := Nat.le_trans HLE.out.size HSAME.out.size
            gi_wp2_with (gi_at_builtin; refine wpListIn_append_at _ rfl _ _ 22 rfl w.heap.size 3 i0 (.int .i64 0) 1 8 Try.underlying22 HI.out HZ.out.1 HZ.out.2.1 HZ.out.2.2 rfl (by decide) _ _ _ rfl (HOWN.out.alloc _) ⟨W.heap.size, 0, none⟩ 1 1 [.int .i64 q] rfl rfl (cell_one_new _ _ _) (by simp [Value.oneCell']) (by unfold maxLen; omega) (by omega) (by simp only [World.size_alloc]; omega) ?_; intro v2 w2 hown2 hgrow2 hat2; have HO2 := Aside0.mk hown2; have HG2 := Aside0.mk hgrow2; have HA2 := Aside0.mk hat2; obtain ⟨g2, cap2, rfl⟩ := ownsRow_succ hown2; have hb2 := placesInv_box HBX.out (fun e => (HROWI.out.1 _ e).2 rfl) hgrow2; have hcb2 : w2.cell? ⟨w1.heap.size + 1, 0, none⟩ = some u := Boxed.cell (t := 22) hb2; have hfb2 : w2.frozen? ⟨w1.heap.size + 1, 0, none⟩ = false := Boxed.frozen (t := 22) hb2; clear hown2 hgrow2 hat2 hb2)
            exact placesInv_step l0 w wl w1 S pre x u _ W w2 q _ HBX.out hSb HROWI.out HSAME.out hSlt hsubS HE2.out HO2.out HG2.out HA2.out
      case done =>
        rintro D S W hinv hD hK
        have HINV := Aside0.mk (placesInv_put l0 w wl w1 _ _ _ D _ (.deferred none) hinv hK rfl hD)
        have HK := Aside0.mk hK
        obtain ⟨u, hbox, hSb, hrow, hsame⟩ := hinv
        have hcb : W.cell? ⟨w1.heap.size + 1, 0, none⟩ = some u := by simp [World.cell?, hbox]
        have HBX := Aside0.mk hbox
        clear hrow hsame hbox hK
        go_wp2
        refine ⟨by simp, .inl ⟨_, _, rfl, run_takeDeferred HK.out, ?_⟩⟩
        obtain ⟨u2, hbox2, hSb2, hrow2, hsame2⟩ := HINV.out
        have hu : u2 = u := by
          have hlt := (Array.getElem?_eq_some_iff.1 HBX.out).1
          have h1 : (W.putObj D (.deferred none)).heap[w1.heap.size + 1]? = W.heap[w1.heap.size + 1]? := World.putObj_heap_other (by omega)
          rw [h1, HBX.out] at hbox2
          simpa using hbox2.symm
        subst hu
        exact ⟨_, results_tmp2 rfl _ _ _, _, rfl, Kd.R_mono hrow2 (fun _ _ => trivial), HLE.out.trans (hsame2.below (fun k hk => ⟨by omega, by omega, by omega⟩) HLE.out.size)⟩
  · rw [if_neg he] at h
    cases h
    have he1 : (r2 == 0) = false := by simpa using he
    have he2 : (r2 != 0) = true := by simpa using he
    go_enter Try.func15, Try.ntmps15
    go_wp2_with (go_at_call 30; refine (space_measured.calls k A0 c0 l0 a1_0 A1_1 c1_1 l1_1 (fun _ => True) A1_2 c1_2 l1_2 (fun _ => True) A1_3 c1_3 l1_3 (fun _ => True) A1_4 c1_4 l1_4 (fun _ => True) A1_5 c1_5 l1_5 n r2 _ (Kd.C_alloc (Kd.C_alloc HR0.out _) _) HC0.out (Kd.C_alloc (Kd.C_alloc HR1_1.out _) _) HC1_1.out (V_of_ints (Kd.C_alloc (Kd.C_alloc HR1_2.out _) _) HC1_2.out) (V_of_ints (Kd.C_alloc (Kd.C_alloc HR1_3.out _) _) HC1_3.out) (V_of_ints (Kd.C_alloc (Kd.C_alloc HR1_4.out _) _) HC1_4.out) (V_of_ints (Kd.C_alloc (Kd.C_alloc HR1_5.out _) _) HC1_5.out) HM.out).mono ?_; rintro e_ w1 ⟨rfl, hb⟩)
    go_ret2
    exact ⟨_, rfl, Kd.R_nil _ _ _ _ _, ((((Below.refl _ w).alloc (Nat.le_refl _) _).alloc (by simp) _).trans (hb.mono (by simp; omega)))⟩
end
end Go.Proofs.Ytjbjofmcmjojlaa.Wk
end
section
namespace Go.Proofs.Ytjbjofmcmjojlaa.Wk
open Go.RowKit Go.Proofs.YtjbjofmcmjojlaaW.PrintWords Go.Proofs.YtjbjofmcmjojlaaW.PrintLast Go.Proofs.YtjbjofmcmjojlaaW.PrintMore
attribute [local go_sem] max2_int min2_int max_two min_two max_three min_three max_four min_four
set_option linter.unusedVariables false
set_option linter.unusedSimpArgs false
def slabvaultlaw12_ints.l0 : Nat → List Int → List Int → Int → Option (Bool)
  | 0, _, _, _ => none
  | k + 1, x0, x1, x5 => if x5 < (x0.length : Int) then (if 0 ≤ x5 then (if x5 < (x1.length : Int) then (if (rd x0 x5) = (rd x1 x5) then (slabvaultlaw12_ints.l0 k x0 x1 (wrap64 (x5 + 1))) else (some false)) else (none)) else (none)) else (some true)
def slabvaultlaw12_ints.f (k : Nat) (l0 : List Int) (l1 : List Int) : Option (Bool) := if (l0.length : Int) = (l1.length : Int) then (slabvaultlaw12_ints.l0 k l0 l1 0) else (some false)
theorem slabvaultlaw12_ints.mono_l : ∀ k, (∀ y0 y1 y2, LeO (slabvaultlaw12_ints.l0 k y0 y1 y2) (slabvaultlaw12_ints.l0 (k + 1) y0 y1 y2))
  | 0 => fun _ _ _ r h => by simp [slabvaultlaw12_ints.l0] at h
  | k + 1 => by
    have ih0 := slabvaultlaw12_ints.mono_l k
    · intro y0 y1 y2
      unfold slabvaultlaw12_ints.l0
      repeat' first
      | (with_reducible exact ih0 _ _ _)
      | (with_reducible exact LeO.refl _)
      | (with_reducible exact LeO.none _)
      | (with_reducible refine LeO.ite ?_ ?_)
      | (with_reducible refine LeO.bind ?_ (fun _ => ?_))
      | exact ih0 _ _ _
      | exact LeO.none _
      | refine LeO.ite ?_ ?_
      | refine LeO.bind ?_ (fun _ => ?_)
theorem slabvaultlaw12_ints.mono : ∀ a0 a1 k, LeO (slabvaultlaw12_ints.f k a0 a1) (slabvaultlaw12_ints.f (k + 1) a0 a1) := by
  intro a0 a1 k
  have ih0 := slabvaultlaw12_ints.mono_l k
  unfold slabvaultlaw12_ints.f
  repeat' first
      | (with_reducible exact ih0 _ _ _)
      | (with_reducible exact LeO.refl _)
      | (with_reducible exact LeO.none _)
      | (with_reducible refine LeO.ite ?_ ?_)
      | (with_reducible refine LeO.bind ?_ (fun _ => ?_))
      | exact ih0 _ _ _
      | exact LeO.none _
      | refine LeO.ite ?_ ?_
      | refine LeO.bind ?_ (fun _ => ?_)
set_option maxHeartbeats 8000000 in
set_option maxRecDepth 100000 in
theorem slabvaultlaw12_ints.calls (k : Nat) (A0 : Option Addr) (c0 : Nat) (l0 : List Int) (A1 : Option Addr) (c1 : Nat) (l1 : List Int) (r : Bool) (w : World) (hr0 : Kd.C (Kd.int .i64) w A0 l0.length l0) (hc0 : l0.length ≤ c0) (hr1 : Kd.C (Kd.int .i64) w A1 l1.length l1) (hc1 : l1.length ≤ c1) (h : slabvaultlaw12_ints.f k l0 l1 = some r) :
    Calls Try.prog 17 #[.slice A0 l0.length c0, .slice A1 l1.length c1] w fun e w' => e = .returned (.bool r) ∧ Drawn0 w w' := by
  have HR0 := Aside0.mk hr0
  have HC0 := Aside0.mk hc0
  clear hr0 hc0
  have HR1 := Aside0.mk hr1
  have HC1 := Aside0.mk hc1
  clear hr1 hc1
  have H : (if (l0.length : Int) = (l1.length : Int) then (slabvaultlaw12_ints.l0 k l0 l1 0) else (some false)) = some r := h
  clear h
  by_cases c3 : (l0.length : Int) = (l1.length : Int)
  · rw [if_pos c3] at H
    have c3b0 : ((l0.length : Int) == (l1.length : Int)) = true := beq_iff_eq.mpr c3
    have c3b1 : ((l0.length : Int) != (l1.length : Int)) = false := bne_eq_false_iff_eq.mpr c3
    have c3b2 : (l0.length == l1.length) = true := by first | simpa using c3 | (simp at c3 ⊢; omega)
    clear c3
    have H' := Aside0.mk H
    clear H
    go_enter Try.func17, Try.ntmps17
    go_wp2
    repeat (go_quiet (fail); try go_wp2)
    go_loopg [5] k (fun kq v5 w' => ∃ (x5_1 : Int), v5 = .int .i64 x5_1 ∧ Aside0 (slabvaultlaw12_ints.l0 kq l0 l1 x5_1 = some r) ∧ Aside0 (kq ≤ k) ∧ Drawn0 w w')
    case atStart => exact ⟨(0), (by first | rfl | (simp; done) | (simp [*]; done)), H', ⟨Nat.le_refl _⟩, by repeat (first | exact Drawn0.refl _ | apply Drawn0.step)⟩
    case round =>
      clear H'
      try clear c1
      try clear p2
      try clear c3
      try clear c3b0
      try clear c3b1
      try clear c3b2
      obtain ⟨x5_1, rfl, HA, HK1, ⟨m1, rfl⟩⟩ := hrel
      cases gk with
      | zero => exact absurd HA.out (by simp [slabvaultlaw12_ints.l0])
      | succ k1 =>
        have H := HA.out
        clear HA
        simp only [slabvaultlaw12_ints.l0] at H
        by_cases c4 : x5_1 < (l0.length : Int)
        · rw [if_pos c4] at H
          have c4b0 : decide (x5_1 < (l0.length : Int)) = true := decide_eq_true c4
          clear c4
          by_cases c5 : 0 ≤ x5_1
          · rw [if_pos c5] at H
            have c5b0 : decide (0 ≤ x5_1) = true := decide_eq_true c5
            clear c5
            by_cases c6 : x5_1 < (l1.length : Int)
            · rw [if_pos c6] at H
              have c6b0 : decide (x5_1 < (l1.length : Int)) = true := decide_eq_true c6
              clear c6
              by_cases c7 : (rd l0 x5_1) = (rd l1 x5_1)
              · rw [if_pos c7] at H
                have c7b0 : ((rd l0 x5_1) == (rd l1 x5_1)) = true := beq_iff_eq.mpr c7
                have c7b1 : ((rd l0 x5_1) != (rd l1 x5_1)) = false := bne_eq_false_iff_eq.mpr c7
                clear c7
                have H' := Aside0.mk H
                clear H
                have p138 : 0 ≤ (x5_1 : Int) := of_decide_eq_true (by first | (with_reducible assumption) | assumption)
                have q138 : x5_1 < (l0.length : Int) := of_decide_eq_true (by first | (with_reducible assumption) | assumption)
                obtain ⟨ad138, e138, hx138_0⟩ := Kd.at_int HR0.out x5_1 p138 q138
                cases e138
                replace p138 := eq_true p138
                replace q138 := eq_true q138
                have p139 : 0 ≤ (x5_1 : Int) := of_decide_eq_true (by first | (with_reducible assumption) | assumption)
                have q139 : x5_1 < (l1.length : Int) := of_decide_eq_true (by first | (with_reducible assumption) | assumption)
                obtain ⟨ad139, e139, hx139_0⟩ := Kd.at_int HR1.out x5_1 p139 q139
                cases e139
                replace p139 := eq_true p139
                replace q139 := eq_true q139
                go_wp2
                repeat (go_quiet (fail); try go_wp2)
                go_roundg k1
                case measure => have := HK1.out; omega
                case rel => exact ⟨(wrap64 (x5_1 + 1)), (by first | rfl | (simp; done) | (simp [*]; done)), H', ⟨by have := HK1.out; omega⟩, by repeat (first | exact Drawn0.refl _ | apply Drawn0.step)⟩
              · rw [if_neg c7] at H
                have c7b0 : ((rd l0 x5_1) == (rd l1 x5_1)) = false := beq_eq_false_iff_ne.mpr c7
                have c7b1 : ((rd l0 x5_1) != (rd l1 x5_1)) = true := bne_iff_ne.mpr c7
                obtain rfl := Option.some.inj H
                have p138 : 0 ≤ (x5_1 : Int) := of_decide_eq_true (by first | (with_reducible assumption) | assumption)
                have q138 : x5_1 < (l0.length : Int) := of_decide_eq_true (by first | (with_reducible assumption) | assumption)
                obtain ⟨ad138, e138, hx138_0⟩ := Kd.at_int HR0.out x5_1 p138 q138
                cases e138
                replace p138 := eq_true p138
                replace q138 := eq_true q138
                have p139 : 0 ≤ (x5_1 : Int) := of_decide_eq_true (by first | (with_reducible assumption) | assumption)
                have q139 : x5_1 < (l1.length : Int) := of_decide_eq_true (by first | (with_reducible assumption) | assumption)
                obtain ⟨ad139, e139, hx139_0⟩ := Kd.at_int HR1.out x5_1 p139 q139
                cases e139
                replace p139 := eq_true p139
                replace q139 := eq_true q139
                go_wp2
                repeat (go_quiet (fail); try go_wp2)
                go_ret
                exact ⟨by first | rfl | (simp; done) | (simp [*]; done), by repeat (first | exact Drawn0.refl _ | apply Drawn0.step)⟩
            · rw [if_neg c6] at H
              exact absurd H (by simp)
          · rw [if_neg c5] at H
            exact absurd H (by simp)
        · rw [if_neg c4] at H
          have c4b0 : decide (x5_1 < (l0.length : Int)) = false := decide_eq_false c4
          clear c4
          obtain rfl := Option.some.inj H
          go_wp2
          repeat (go_quiet (fail); try go_wp2)
          go_ret
          exact ⟨by first | rfl | (simp; done) | (simp [*]; done), by repeat (first | exact Drawn0.refl _ | apply Drawn0.step)⟩
  · rw [if_neg c3] at H
    have c3b0 : ((l0.length : Int) == (l1.length : Int)) = false := beq_eq_false_iff_ne.mpr c3
    have c3b1 : ((l0.length : Int) != (l1.length : Int)) = true := bne_iff_ne.mpr c3
    have c3b2 : (l0.length == l1.length) = false := by first | simpa using c3 | (simp at c3 ⊢; omega)
    obtain rfl := Option.some.inj H
    go_enter Try.func17, Try.ntmps17
    go_wp2
    repeat (go_quiet (fail); try go_wp2)
    go_ret
    exact ⟨by first | rfl | (simp; done) | (simp [*]; done), by repeat (first | exact Drawn0.refl _ | apply Drawn0.step)⟩
end Go.Proofs.Ytjbjofmcmjojlaa.Wk
end
section
namespace Go.Proofs.Ytjbjofmcmjojlaa.Wk
open Go.RowKit Go.Proofs.YtjbjofmcmjojlaaW.PrintWords Go.Proofs.YtjbjofmcmjojlaaW.PrintLast Go.Proofs.YtjbjofmcmjojlaaW.PrintMore
attribute [local go_sem] max2_int min2_int max_two min_two max_three min_three max_four min_four
set_option linter.unusedVariables false
set_option linter.unusedSimpArgs false
def space_Check.f (k : Nat) (l0 : List Int) (a1_0 : Int) (l1_1 : List (List Int)) (l1_2 : List Int) (l1_3 : List Int) (l1_4 : List Int) (l1_5 : List Int) : Option (Int) := (space_measured.f k l0 a1_0 l1_1 l1_2 l1_3 l1_4 l1_5).bind fun bt141 => (some bt141.2)
theorem space_Check.mono : ∀ a0 a1 a2 a3 a4 a5 a6 k, LeO (space_Check.f k a0 a1 a2 a3 a4 a5 a6) (space_Check.f (k + 1) a0 a1 a2 a3 a4 a5 a6) := by
  intro a0 a1 a2 a3 a4 a5 a6 k
  unfold space_Check.f
  repeat' first
      | (with_reducible exact space_measured.mono _ _ _ _ _ _ _ _)
      | (with_reducible exact LeO.refl _)
      | (with_reducible exact LeO.none _)
      | (with_reducible refine LeO.ite ?_ ?_)
      | (with_reducible refine LeO.bind ?_ (fun _ => ?_))
      | exact space_measured.mono _ _ _ _ _ _ _ _
      | exact LeO.none _
      | refine LeO.ite ?_ ?_
      | refine LeO.bind ?_ (fun _ => ?_)
set_option maxHeartbeats 8000000 in
set_option maxRecDepth 100000 in
theorem space_Check.calls (k : Nat) (A0 : Option Addr) (c0 : Nat) (l0 : List Int) (a1_0 : Int) (A1_1 : Option Addr) (c1_1 : Nat) (l1_1 : List (List Int)) (A1_2 : Option Addr) (c1_2 : Nat) (l1_2 : List Int) (A1_3 : Option Addr) (c1_3 : Nat) (l1_3 : List Int) (A1_4 : Option Addr) (c1_4 : Nat) (l1_4 : List Int) (A1_5 : Option Addr) (c1_5 : Nat) (l1_5 : List Int) (r : Int) (w : World) (hr0 : Kd.C (Kd.int .i64) w A0 l0.length l0) (hc0 : l0.length ≤ c0) (hr1_1 : Kd.C (Kd.slice 3 (Kd.int .i64)) w A1_1 l1_1.length l1_1) (hc1_1 : l1_1.length ≤ c1_1) (hr1_2 : Kd.C (Kd.int .i64) w A1_2 l1_2.length l1_2) (hc1_2 : l1_2.length ≤ c1_2) (hr1_3 : Kd.C (Kd.int .i64) w A1_3 l1_3.length l1_3) (hc1_3 : l1_3.length ≤ c1_3) (hr1_4 : Kd.C (Kd.int .i64) w A1_4 l1_4.length l1_4) (hc1_4 : l1_4.length ≤ c1_4) (hr1_5 : Kd.C (Kd.int .i64) w A1_5 l1_5.length l1_5) (hc1_5 : l1_5.length ≤ c1_5) (h : space_Check.f k l0 a1_0 l1_1 l1_2 l1_3 l1_4 l1_5 = some r) :
    Calls Try.prog 18 #[.slice A0 l0.length c0, .agg #[.int .i64 a1_0, .slice A1_1 l1_1.length c1_1, .slice A1_2 l1_2.length c1_2, .slice A1_3 l1_3.length c1_3, .slice A1_4 l1_4.length c1_4, .slice A1_5 l1_5.length c1_5]] w fun e w' => e = .returned (.int .i64 r) ∧ Below w.heap.size w w' := by
  have hu33 := Try.underlying33
  have HR0 := Aside0.mk hr0
  have HC0 := Aside0.mk hc0
  clear hr0 hc0
  have HR1_1 := Aside0.mk hr1_1
  have HC1_1 := Aside0.mk hc1_1
  clear hr1_1 hc1_1
  have HR1_2 := Aside0.mk hr1_2
  have HC1_2 := Aside0.mk hc1_2
  clear hr1_2 hc1_2
  have HR1_3 := Aside0.mk hr1_3
  have HC1_3 := Aside0.mk hc1_3
  clear hr1_3 hc1_3
  have HR1_4 := Aside0.mk hr1_4
  have HC1_4 := Aside0.mk hc1_4
  clear hr1_4 hc1_4
  have HR1_5 := Aside0.mk hr1_5
  have HC1_5 := Aside0.mk hc1_5
  clear hr1_5 hc1_5
  have HB := Aside0.mk (Below.refl w.heap.size w)
  have H : ((space_measured.f k l0 a1_0 l1_1 l1_2 l1_3 l1_4 l1_5).bind fun bt141 => (some bt141.2)) = some r := h
  clear h
  replace H := Option.bind_eq_some_iff.mp H
  obtain ⟨⟨t141, t142⟩, A30, H⟩ := H
  replace H : (some t142) = some r := H
  have A3 := Aside0.mk A30
  clear A30
  obtain rfl := Option.some.inj H
  go_enter Try.func18, Try.ntmps18
  go_wp2_with (first | ((with_reducible refine gate_dst (N := 3) rfl ?_); refine box_event ?hg (N := 3) ?hd (cs := #[.int .i64 a1_0, .slice A1_1 l1_1.length c1_1, .slice A1_2 l1_2.length c1_2, .slice A1_3 l1_3.length c1_3, .slice A1_4 l1_4.length c1_4, .slice A1_5 l1_5.length c1_5]) (t := 33) ?hr ?_; (case hd => rfl); (case hg => rfl); (case hr => first | (go_simp; done) | (go_simp; rfl)); intro gb140 hg w4 hbox hb; have n0_ := Aside0.mk (below_step (by repeat (first | (with_reducible first | exact HB.out | apply below_alloc | apply pw_below_drewN | apply below_drew1) | exact HB.out)) hb); have n1_ := Aside0.mk (hbox); have n2_ := Aside0.mk ((by rw [hg]; exact (below_size (by repeat (first | (with_reducible first | exact HB.out | apply below_alloc | apply pw_below_drewN | apply below_drew1) | exact HB.out))) : w.heap.size ≤ gb140)); have n3_ := Aside0.mk ((by rw [hg]; exact (below_size (by repeat (first | (with_reducible first | exact HB.out | apply below_alloc | apply pw_below_drewN | apply below_drew1) | exact HB.out))) : w.heap.size ≤ gb140)); clear HB; have HB := n0_; have BK140 := n1_; have GW140 := n2_; have GE140 := n3_; clear n0_ n1_ n2_ n3_; clear hb hbox hg; have hcz5_0 : w4.cell? ⟨gb140, 0, none⟩ = some (.int .i64 a1_0) := (blk_cell BK140.out 0).trans rfl; have hcz5_1 : w4.cell? ⟨gb140, 1, none⟩ = some (.slice A1_1 l1_1.length c1_1) := (blk_cell BK140.out 1).trans rfl; have hcz5_2 : w4.cell? ⟨gb140, 2, none⟩ = some (.slice A1_2 l1_2.length c1_2) := (blk_cell BK140.out 2).trans rfl; have hcz5_3 : w4.cell? ⟨gb140, 3, none⟩ = some (.slice A1_3 l1_3.length c1_3) := (blk_cell BK140.out 3).trans rfl; have hcz5_4 : w4.cell? ⟨gb140, 4, none⟩ = some (.slice A1_4 l1_4.length c1_4) := (blk_cell BK140.out 4).trans rfl; have hcz5_5 : w4.cell? ⟨gb140, 5, none⟩ = some (.slice A1_5 l1_5.length c1_5) := (blk_cell BK140.out 5).trans rfl; have hfz5_0 := blk_frozen BK140.out 0; have hfz5_1 := blk_frozen BK140.out 1; have hfz5_2 := blk_frozen BK140.out 2; have hfz5_3 := blk_frozen BK140.out 3; have hfz5_4 := blk_frozen BK140.out 4; have hfz5_5 := blk_frozen BK140.out 5) | ((with_reducible refine gate_callee (f := 30) rfl ?_); refine goesL_ (some 10) rfl rfl Try.func30 (by kernel_rfl) rfl #[.slice A0 l0.length c0, .agg #[.int .i64 a1_0, .slice A1_1 l1_1.length c1_1, .slice A1_2 l1_2.length c1_2, .slice A1_3 l1_3.length c1_3, .slice A1_4 l1_4.length c1_4, .slice A1_5 l1_5.length c1_5]] rfl (by (try simp only [List.map_toArray, List.map_cons, List.map_nil]); first | done | rfl | (simp only [List.length_drop, List.length_take]; rfl)) ?_; (with_reducible refine (space_measured.calls k _ _ l0 a1_0 _ _ l1_1 (fun k_ => k_ < w.heap.size) _ _ l1_2 (fun k_ => k_ < w.heap.size) _ _ l1_3 (fun k_ => k_ < w.heap.size) _ _ l1_4 (fun k_ => k_ < w.heap.size) _ _ l1_5 t141 t142 _ ?side1 ?side2 ?side3 ?side4 ?side5 ?side6 ?side7 ?side8 A3.out).mono ?_); (case side1 => repeat (first | exact (Kd.C_below HR0.out HB.out) | (with_reducible refine Kd.C_alloc ?_ _) | (with_reducible refine Kd.C_drewN ?_ _) | (with_reducible refine Kd.C_drew ?_))); (case side2 => exact HC0.out); (case side3 => repeat (first | exact (Kd.C_below HR1_1.out HB.out) | (with_reducible refine Kd.C_alloc ?_ _) | (with_reducible refine Kd.C_drewN ?_ _) | (with_reducible refine Kd.C_drew ?_))); (case side4 => exact HC1_1.out); (case side5 => exact Kd.V_mk HC1_2.out (Kd.F_below (Kd.C_F (Kd.heap_int .i64) HR1_2.out) (by repeat (first | (with_reducible first | exact HB.out | apply below_alloc | apply pw_below_drewN | apply below_drew1 | refine below_set ?_ GE140.out) | exact HB.out)))); (case side6 => exact Kd.V_mk HC1_3.out (Kd.F_below (Kd.C_F (Kd.heap_int .i64) HR1_3.out) (by repeat (first | (with_reducible first | exact HB.out | apply below_alloc | apply pw_below_drewN | apply below_drew1 | refine below_set ?_ GE140.out) | exact HB.out)))); (case side7 => exact Kd.V_mk HC1_4.out (Kd.F_below (Kd.C_F (Kd.heap_int .i64) HR1_4.out) (by repeat (first | (with_reducible first | exact HB.out | apply below_alloc | apply pw_below_drewN | apply below_drew1 | refine below_set ?_ GE140.out) | exact HB.out)))); (case side8 => exact Kd.V_mk HC1_5.out (Kd.F_below (Kd.C_F (Kd.heap_int .i64) HR1_5.out) (by repeat (first | (with_reducible first | exact HB.out | apply below_alloc | apply pw_below_drewN | apply below_drew1 | refine below_set ?_ GE140.out) | exact HB.out)))); rintro e w6 ⟨rfl, hb⟩; refine ⟨_, rfl, ?_⟩; have n0_ := Aside0.mk (blk_below (g := gb140) (o := .cells #[.int .i64 a1_0, .slice A1_1 l1_1.length c1_1, .slice A1_2 l1_2.length c1_2, .slice A1_3 l1_3.length c1_3, .slice A1_4 l1_4.length c1_4, .slice A1_5 l1_5.length c1_5] 33 (0, 0)) (by (with_reducible repeat (first | refine blk_drewN ?_ _ | refine blk_drew ?_ | refine blk_alloc ?_ _)); exact BK140.out) hb); have n1_ := Aside0.mk (below_step (by repeat (first | (with_reducible first | exact HB.out | apply below_alloc | apply pw_below_drewN | apply below_drew1 | refine below_set ?_ GE140.out) | exact HB.out)) hb); clear BK140; clear HB; have BK140 := n0_; have HB := n1_; clear n0_ n1_; (try clear hb); (try clear hb2); (try clear hk); (try clear hi)))
  go_ret
  exact ⟨by first | rfl | (simp [errW_none, errW_some] <;> rfl) | (simp [*, errW_none, errW_some] <;> rfl), by repeat (first | (with_reducible first | exact HB.out | apply below_alloc | apply pw_below_drewN | apply below_drew1 | refine below_set ?_ GE140.out) | exact HB.out)⟩
end Go.Proofs.Ytjbjofmcmjojlaa.Wk
end
section
namespace Go.Proofs.Ytjbjofmcmjojlaa.Wk
open Go.RowKit Go.Proofs.YtjbjofmcmjojlaaW.PrintWords Go.Proofs.YtjbjofmcmjojlaaW.PrintLast Go.Proofs.YtjbjofmcmjojlaaW.PrintMore
attribute [local go_sem] max2_int min2_int max_two min_two max_three min_three max_four min_four
set_option linter.unusedVariables false
set_option linter.unusedSimpArgs false
def slabvaultlaw12_slab.f (a0 : Int) : Option (Int × (List (List Int)) × List Int × List Int × List Int × List Int) := some (3, ([] : List (List Int)), (([0, 1] : List Int)), (([1, a0] : List Int)), (([2, 2] : List Int)), (([1, 1] : List Int)))
set_option maxHeartbeats 8000000 in
set_option maxRecDepth 100000 in
theorem slabvaultlaw12_slab.calls (a0 : Int) (r1 : Int) (r2 : List (List Int)) (r3 : List Int) (r4 : List Int) (r5 : List Int) (r6 : List Int) (w : World) (h : slabvaultlaw12_slab.f a0 = some (r1, r2, r3, r4, r5, r6)) :
    Calls Try.prog 29 #[.int .i64 a0] w fun e w' => ∃ v1_ v2_ v3_ v4_ v5_ : Value, e = .returned (.agg #[.int .i64 r1, v1_, v2_, v3_, v4_, v5_]) ∧ Kd.S (Kd.slice 3 (Kd.int .i64)) 22 w' w.heap.size (fun k_ => some k_ ≠ (v2_ : Value).ownBlock ∧ some k_ ≠ (v3_ : Value).ownBlock ∧ some k_ ≠ (v4_ : Value).ownBlock ∧ some k_ ≠ (v5_ : Value).ownBlock) v1_ r2 ∧ Kd.R (Kd.int .i64) 3 w' w.heap.size (fun k_ => some k_ ≠ (v3_ : Value).ownBlock ∧ some k_ ≠ (v4_ : Value).ownBlock ∧ some k_ ≠ (v5_ : Value).ownBlock) v2_ r3 ∧ Kd.R (Kd.int .i64) 3 w' w.heap.size (fun k_ => some k_ ≠ (v2_ : Value).ownBlock ∧ some k_ ≠ (v4_ : Value).ownBlock ∧ some k_ ≠ (v5_ : Value).ownBlock) v3_ r4 ∧ Kd.R (Kd.int .i64) 3 w' w.heap.size (fun k_ => some k_ ≠ (v2_ : Value).ownBlock ∧ some k_ ≠ (v3_ : Value).ownBlock ∧ some k_ ≠ (v5_ : Value).ownBlock) v4_ r5 ∧ Kd.R (Kd.int .i64) 3 w' w.heap.size (fun k_ => some k_ ≠ (v2_ : Value).ownBlock ∧ some k_ ≠ (v3_ : Value).ownBlock ∧ some k_ ≠ (v4_ : Value).ownBlock) v5_ r6 ∧ Below w.heap.size w w' := by
  have hu33 := Try.underlying33
  have HB := Aside0.mk (Below.refl w.heap.size w)
  have H : (some (3, ([] : List (List Int)), (([0, 1] : List Int)), (([1, a0] : List Int)), (([2, 2] : List Int)), (([1, 1] : List Int)))) = some (r1, r2, r3, r4, r5, r6) := h
  clear h
  obtain ⟨y144, hy144⟩ : ∃ y_ : List Int, y_ = (([0, 1] : List Int)) := ⟨_, rfl⟩
  replace H : (some (3, ([] : List (List Int)), y144, (([1, a0] : List Int)), (([2, 2] : List Int)), (([1, 1] : List Int)))) = some (r1, r2, r3, r4, r5, r6) := by first | (rw [hy144]; with_reducible exact H) | (have H2_ := (Option.bind_some _ _).symm.trans H; rw [hy144]; with_reducible exact H2_) | (have H2_ := (Option.bind_some _ _).symm.trans H; with_reducible exact H2_) | with_reducible exact H | (rw [hy144]; exact H) | exact H
  have Ny144 := Aside0.mk hy144
  clear hy144
  obtain ⟨y147, hy147⟩ : ∃ y_ : List Int, y_ = (([1, a0] : List Int)) := ⟨_, rfl⟩
  replace H : (some (3, ([] : List (List Int)), y144, y147, (([2, 2] : List Int)), (([1, 1] : List Int)))) = some (r1, r2, r3, r4, r5, r6) := by first | (rw [hy147]; with_reducible exact H) | (have H2_ := (Option.bind_some _ _).symm.trans H; rw [hy147]; with_reducible exact H2_) | (have H2_ := (Option.bind_some _ _).symm.trans H; with_reducible exact H2_) | with_reducible exact H | (rw [hy147]; exact H) | exact H
  have Ny147 := Aside0.mk hy147
  clear hy147
  obtain ⟨y150, hy150⟩ : ∃ y_ : List Int, y_ = (([2, 2] : List Int)) := ⟨_, rfl⟩
  replace H : (some (3, ([] : List (List Int)), y144, y147, y150, (([1, 1] : List Int)))) = some (r1, r2, r3, r4, r5, r6) := by first | (rw [hy150]; with_reducible exact H) | (have H2_ := (Option.bind_some _ _).symm.trans H; rw [hy150]; with_reducible exact H2_) | (have H2_ := (Option.bind_some _ _).symm.trans H; with_reducible exact H2_) | with_reducible exact H | (rw [hy150]; exact H) | exact H
  have Ny150 := Aside0.mk hy150
  clear hy150
  obtain ⟨y153, hy153⟩ : ∃ y_ : List Int, y_ = (([1, 1] : List Int)) := ⟨_, rfl⟩
  replace H : (some (3, ([] : List (List Int)), y144, y147, y150, y153)) = some (r1, r2, r3, r4, r5, r6) := by first | (rw [hy153]; with_reducible exact H) | (have H2_ := (Option.bind_some _ _).symm.trans H; rw [hy153]; with_reducible exact H2_) | (have H2_ := (Option.bind_some _ _).symm.trans H; with_reducible exact H2_) | with_reducible exact H | (rw [hy153]; exact H) | exact H
  have Ny153 := Aside0.mk hy153
  clear hy153
  simp only [Option.some.injEq, Prod.mk.injEq] at H
  obtain ⟨rfl, rfl, rfl, rfl, rfl, rfl⟩ := H
  go_enter Try.func29, Try.ntmps29
  go_wp2_with (first | ((with_reducible refine gate_dst (N := 2) rfl ?_); refine box_event ?hg (N := 2) ?hd (cs := #[.int .i64 0, .slice none 0 0, .slice none 0 0, .slice none 0 0, .slice none 0 0, .slice none 0 0]) (t := 33) ?hr ?_; (case hd => rfl); (case hg => rfl); (case hr => first | (go_simp; done) | (go_simp; rfl)); intro gb143 hg w2 hbox hb; have n0_ := Aside0.mk (below_step (by repeat (first | (with_reducible first | exact HB.out | apply below_alloc | apply pw_below_drewN | apply below_drew1) | exact HB.out)) hb); have n1_ := Aside0.mk (hbox); have n2_ := Aside0.mk ((by rw [hg]; exact (below_size (by repeat (first | (with_reducible first | exact HB.out | apply below_alloc | apply pw_below_drewN | apply below_drew1) | exact HB.out))) : w.heap.size ≤ gb143)); have n3_ := Aside0.mk ((by rw [hg]; exact (below_size (by repeat (first | (with_reducible first | exact HB.out | apply below_alloc | apply pw_below_drewN | apply below_drew1) | exact HB.out))) : w.heap.size ≤ gb143)); clear HB; have HB := n0_; have BK143 := n1_; have GW143 := n2_; have GE143 := n3_; clear n0_ n1_ n2_ n3_; clear hb hbox hg) | ((with_reducible refine gate_dst (N := 3) rfl ?_); refine Kd.R_lit (Kd.int .i64) _ 3 ?hg (N := 3) ?hd (xs := ([0, 1] : List Int)) (inner := [.int .i64 0, .int .i64 1]) (ok := fun _ => True) (okp := fun _ => True) ?hr ?hp (fun _ hk => hk) trivial (Below.refl _ _) (Nat.le_refl _) (by simp) ?_; (case hd => rfl); (case hg => rfl); (case hr => first | (go_simp; done) | (go_simp; rfl)); (case hp => exact (Reps.one (show Kd.M (Kd.int .i64) _ _ _ 0 [.int .i64 0] from rfl) (Reps.one (show Kd.M (Kd.int .i64) _ _ _ 1 [.int .i64 1] from rfl) (Reps.none _ _)))); intro v145 w3 ho4 hb hg_ hnew_; clear hg_ hnew_; (first | rw [← Ny144.out] at ho4 | (simp only [Int.reduceToNat] at ho4; rw [← Ny144.out] at ho4)); have n0_ := Aside0.mk (Kd.R_lower ho4 (below_size (by repeat (first | (with_reducible first | exact HB.out | apply below_alloc | apply pw_below_drewN | apply below_drew1 | refine below_set ?_ GE143.out) | exact HB.out)))); have n1_ := Aside0.mk (blk_below (g := gb143) (o := .cells #[.int .i64 0, .slice none 0 0, .slice none 0 0, .slice none 0 0, .slice none 0 0, .slice none 0 0] 33 (0, 0)) (by (with_reducible repeat (first | refine blk_drewN ?_ _ | refine blk_drew ?_ | refine blk_alloc ?_ _)); exact BK143.out) hb); have n2_ := Aside0.mk (below_step (by repeat (first | (with_reducible first | exact HB.out | apply below_alloc | apply pw_below_drewN | apply below_drew1 | refine below_set ?_ GE143.out) | exact HB.out)) hb); clear BK143; clear HB; have HO146 := n0_; have BK143 := n1_; have HB := n2_; clear n0_ n1_ n2_; clear hb ho4) | ((with_reducible refine gate_dst (N := 5) rfl ?_); refine Kd.R_lit (Kd.int .i64) _ 3 ?hg (N := 5) ?hd (xs := ([1, a0] : List Int)) (inner := [.int .i64 1, .int .i64 a0]) (ok := fun _ => True) (okp := fun _ => True) ?hr ?hp (fun _ hk => hk) trivial (Below.refl _ _) (Nat.le_refl _) (by simp) ?_; (case hd => rfl); (case hg => rfl); (case hr => first | (go_simp; done) | (go_simp; rfl)); (case hp => exact (Reps.one (show Kd.M (Kd.int .i64) _ _ _ 1 [.int .i64 1] from rfl) (Reps.one (show Kd.M (Kd.int .i64) _ _ _ a0 [.int .i64 a0] from rfl) (Reps.none _ _)))); intro v148 w5 ho6 hb hg_ hnew_; clear hg_ hnew_; (first | rw [← Ny147.out] at ho6 | (simp only [Int.reduceToNat] at ho6; rw [← Ny147.out] at ho6)); have n0_ := Aside0.mk (Kd.R_elder' (by (with_reducible repeat (first | apply Kd.R_alloc | apply Kd.R_drewN | apply Kd.R_drew)); exact HO146.out) (Kd.R_base ho6) hb); have n1_ := Aside0.mk (Kd.R_lower (Kd.R_new' ho6 (Kd.R_lt (by (with_reducible repeat (first | apply Kd.R_alloc | apply Kd.R_drewN | apply Kd.R_drew)); exact HO146.out))) (below_size (by repeat (first | (with_reducible first | exact HB.out | apply below_alloc | apply pw_below_drewN | apply below_drew1 | refine below_set ?_ GE143.out) | exact HB.out)))); have n2_ := Aside0.mk (blk_below (g := gb143) (o := .cells #[.int .i64 0, .slice none 0 0, .slice none 0 0, .slice none 0 0, .slice none 0 0, .slice none 0 0] 33 (0, 0)) (by (with_reducible repeat (first | refine blk_drewN ?_ _ | refine blk_drew ?_ | refine blk_alloc ?_ _)); exact BK143.out) hb); have n3_ := Aside0.mk (below_step (by repeat (first | (with_reducible first | exact HB.out | apply below_alloc | apply pw_below_drewN | apply below_drew1 | refine below_set ?_ GE143.out) | exact HB.out)) hb); clear HO146; clear BK143; clear HB; have HO146 := n0_; have HO149 := n1_; have BK143 := n2_; have HB := n3_; clear n0_ n1_ n2_ n3_; clear hb ho6) | ((with_reducible refine gate_dst (N := 6) rfl ?_); refine Kd.R_lit (Kd.int .i64) _ 3 ?hg (N := 6) ?hd (xs := ([2, 2] : List Int)) (inner := [.int .i64 2, .int .i64 2]) (ok := fun _ => True) (okp := fun _ => True) ?hr ?hp (fun _ hk => hk) trivial (Below.refl _ _) (Nat.le_refl _) (by simp) ?_; (case hd => rfl); (case hg => rfl); (case hr => first | (go_simp; done) | (go_simp; rfl)); (case hp => exact (Reps.one (show Kd.M (Kd.int .i64) _ _ _ 2 [.int .i64 2] from rfl) (Reps.one (show Kd.M (Kd.int .i64) _ _ _ 2 [.int .i64 2] from rfl) (Reps.none _ _)))); intro v151 w7 ho8 hb hg_ hnew_; clear hg_ hnew_; (first | rw [← Ny150.out] at ho8 | (simp only [Int.reduceToNat] at ho8; rw [← Ny150.out] at ho8)); have n0_ := Aside0.mk (Kd.R_elder' (by (with_reducible repeat (first | apply Kd.R_alloc | apply Kd.R_drewN | apply Kd.R_drew)); exact HO146.out) (Kd.R_base ho8) hb); have n1_ := Aside0.mk (Kd.R_elder' (by (with_reducible repeat (first | apply Kd.R_alloc | apply Kd.R_drewN | apply Kd.R_drew)); exact HO149.out) (Kd.R_base ho8) hb); have n2_ := Aside0.mk (Kd.R_lower (Kd.R_new' (Kd.R_new' ho8 (Kd.R_lt (by (with_reducible repeat (first | apply Kd.R_alloc | apply Kd.R_drewN | apply Kd.R_drew)); exact HO146.out))) (Kd.R_lt (by (with_reducible repeat (first | apply Kd.R_alloc | apply Kd.R_drewN | apply Kd.R_drew)); exact HO149.out))) (below_size (by repeat (first | (with_reducible first | exact HB.out | apply below_alloc | apply pw_below_drewN | apply below_drew1 | refine below_set ?_ GE143.out) | exact HB.out)))); have n3_ := Aside0.mk (blk_below (g := gb143) (o := .cells #[.int .i64 0, .slice none 0 0, .slice none 0 0, .slice none 0 0, .slice none 0 0, .slice none 0 0] 33 (0, 0)) (by (with_reducible repeat (first | refine blk_drewN ?_ _ | refine blk_drew ?_ | refine blk_alloc ?_ _)); exact BK143.out) hb); have n4_ := Aside0.mk (below_step (by repeat (first | (with_reducible first | exact HB.out | apply below_alloc | apply pw_below_drewN | apply below_drew1 | refine below_set ?_ GE143.out) | exact HB.out)) hb); clear HO146; clear HO149; clear BK143; clear HB; have HO146 := n0_; have HO149 := n1_; have HO152 := n2_; have BK143 := n3_; have HB := n4_; clear n0_ n1_ n2_ n3_ n4_; clear hb ho8) | ((with_reducible refine gate_dst (N := 7) rfl ?_); refine Kd.R_lit (Kd.int .i64) _ 3 ?hg (N := 7) ?hd (xs := ([1, 1] : List Int)) (inner := [.int .i64 1, .int .i64 1]) (ok := fun _ => True) (okp := fun _ => True) ?hr ?hp (fun _ hk => hk) trivial (Below.refl _ _) (Nat.le_refl _) (by simp) ?_; (case hd => rfl); (case hg => rfl); (case hr => first | (go_simp; done) | (go_simp; rfl)); (case hp => exact (Reps.one (show Kd.M (Kd.int .i64) _ _ _ 1 [.int .i64 1] from rfl) (Reps.one (show Kd.M (Kd.int .i64) _ _ _ 1 [.int .i64 1] from rfl) (Reps.none _ _)))); intro v154 w9 ho10 hb hg_ hnew_; clear hg_ hnew_; (first | rw [← Ny153.out] at ho10 | (simp only [Int.reduceToNat] at ho10; rw [← Ny153.out] at ho10)); have n0_ := Aside0.mk (Kd.R_elder' (by (with_reducible repeat (first | apply Kd.R_alloc | apply Kd.R_drewN | apply Kd.R_drew)); exact HO146.out) (Kd.R_base ho10) hb); have n1_ := Aside0.mk (Kd.R_elder' (by (with_reducible repeat (first | apply Kd.R_alloc | apply Kd.R_drewN | apply Kd.R_drew)); exact HO149.out) (Kd.R_base ho10) hb); have n2_ := Aside0.mk (Kd.R_elder' (by (with_reducible repeat (first | apply Kd.R_alloc | apply Kd.R_drewN | apply Kd.R_drew)); exact HO152.out) (Kd.R_base ho10) hb); have n3_ := Aside0.mk (Kd.R_lower (Kd.R_new' (Kd.R_new' (Kd.R_new' ho10 (Kd.R_lt (by (with_reducible repeat (first | apply Kd.R_alloc | apply Kd.R_drewN | apply Kd.R_drew)); exact HO146.out))) (Kd.R_lt (by (with_reducible repeat (first | apply Kd.R_alloc | apply Kd.R_drewN | apply Kd.R_drew)); exact HO149.out))) (Kd.R_lt (by (with_reducible repeat (first | apply Kd.R_alloc | apply Kd.R_drewN | apply Kd.R_drew)); exact HO152.out))) (below_size (by repeat (first | (with_reducible first | exact HB.out | apply below_alloc | apply pw_below_drewN | apply below_drew1 | refine below_set ?_ GE143.out) | exact HB.out)))); have n4_ := Aside0.mk (blk_below (g := gb143) (o := .cells #[.int .i64 0, .slice none 0 0, .slice none 0 0, .slice none 0 0, .slice none 0 0, .slice none 0 0] 33 (0, 0)) (by (with_reducible repeat (first | refine blk_drewN ?_ _ | refine blk_drew ?_ | refine blk_alloc ?_ _)); exact BK143.out) hb); have n5_ := Aside0.mk (below_step (by repeat (first | (with_reducible first | exact HB.out | apply below_alloc | apply pw_below_drewN | apply below_drew1 | refine below_set ?_ GE143.out) | exact HB.out)) hb); clear HO146; clear HO149; clear HO152; clear BK143; clear HB; have HO146 := n0_; have HO149 := n1_; have HO152 := n2_; have HO155 := n3_; have BK143 := n4_; have HB := n5_; clear n0_ n1_ n2_ n3_ n4_ n5_; clear hb ho10; obtain ⟨Ao11, co11, eo11⟩ := Kd.R_slice HO155.out; subst eo11; obtain ⟨Ao12, co12, eo12⟩ := Kd.R_slice HO152.out; subst eo12; obtain ⟨Ao13, co13, eo13⟩ := Kd.R_slice HO149.out; subst eo13; obtain ⟨Ao14, co14, eo14⟩ := Kd.R_slice HO146.out; subst eo14; have hcz15_0 : w9.cell? ⟨gb143, 0, none⟩ = some (.int .i64 0) := (blk_cell BK143.out 0).trans rfl; have hcz15_1 : w9.cell? ⟨gb143, 1, none⟩ = some (.slice none 0 0) := (blk_cell BK143.out 1).trans rfl; have hcz15_2 : w9.cell? ⟨gb143, 2, none⟩ = some (.slice none 0 0) := (blk_cell BK143.out 2).trans rfl; have hcz15_3 : w9.cell? ⟨gb143, 3, none⟩ = some (.slice none 0 0) := (blk_cell BK143.out 3).trans rfl; have hcz15_4 : w9.cell? ⟨gb143, 4, none⟩ = some (.slice none 0 0) := (blk_cell BK143.out 4).trans rfl; have hcz15_5 : w9.cell? ⟨gb143, 5, none⟩ = some (.slice none 0 0) := (blk_cell BK143.out 5).trans rfl; have hfz15_0 := blk_frozen BK143.out 0; have hfz15_1 := blk_frozen BK143.out 1; have hfz15_2 := blk_frozen BK143.out 2; have hfz15_3 := blk_frozen BK143.out 3; have hfz15_4 := blk_frozen BK143.out 4; have hfz15_5 := blk_frozen BK143.out 5))
  refine bodyPost_ret (results_cell_row rfl _ _ gb143 33 #[.int .i64 3, .slice none 0 0, .slice Ao14 y144.length co14, .slice Ao13 y147.length co13, .slice Ao12 y150.length co12, .slice Ao11 y153.length co11] (0, 0) _ rfl (by (with_reducible repeat (first | refine blk_drewN ?_ _ | refine blk_drew ?_ | refine blk_alloc ?_ _)); refine blk_put (cs := #[.int .i64 3, .slice none 0 0, .slice Ao14 y144.length co14, .slice Ao13 y147.length co13, .slice Ao12 y150.length co12, .slice none 0 0]) ?_ 5 _ rfl; (with_reducible repeat (first | refine blk_drewN ?_ _ | refine blk_drew ?_ | refine blk_alloc ?_ _)); refine blk_put (cs := #[.int .i64 3, .slice none 0 0, .slice Ao14 y144.length co14, .slice Ao13 y147.length co13, .slice none 0 0, .slice none 0 0]) ?_ 4 _ rfl; (with_reducible repeat (first | refine blk_drewN ?_ _ | refine blk_drew ?_ | refine blk_alloc ?_ _)); refine blk_put (cs := #[.int .i64 3, .slice none 0 0, .slice Ao14 y144.length co14, .slice none 0 0, .slice none 0 0, .slice none 0 0]) ?_ 3 _ rfl; (with_reducible repeat (first | refine blk_drewN ?_ _ | refine blk_drew ?_ | refine blk_alloc ?_ _)); refine blk_put (cs := #[.int .i64 3, .slice none 0 0, .slice none 0 0, .slice none 0 0, .slice none 0 0, .slice none 0 0]) ?_ 2 _ rfl; (with_reducible repeat (first | refine blk_drewN ?_ _ | refine blk_drew ?_ | refine blk_alloc ?_ _)); refine blk_put (cs := #[.int .i64 3, .slice none 0 0, .slice none 0 0, .slice none 0 0, .slice none 0 0, .slice none 0 0]) ?_ 1 _ rfl; (with_reducible repeat (first | refine blk_drewN ?_ _ | refine blk_drew ?_ | refine blk_alloc ?_ _)); refine blk_put (cs := #[.int .i64 0, .slice none 0 0, .slice none 0 0, .slice none 0 0, .slice none 0 0, .slice none 0 0]) ?_ 0 _ rfl; (with_reducible repeat (first | refine blk_drewN ?_ _ | refine blk_drew ?_ | refine blk_alloc ?_ _)); exact BK143.out) Try.underlying33 rfl (by kernel_rfl)) rfl ?_
  exact ⟨_, _, _, _, _, by first | rfl | (simp [errW_none, errW_some] <;> rfl) | (simp [*, errW_none, errW_some] <;> rfl), by first | exact Kd.S_nil _ _ _ _ _ | exact Kd.N_nil _ _ _ _ _ | exact Kd.V_nil _ _ _ _ _ | exact Kd.Q_nil _ _ _ _ _ | exact Kd.R_nil _ _ _ _ _, by (with_reducible repeat (first | apply Kd.R_alloc | apply Kd.R_drewN | apply Kd.R_drew)); exact Kd.R_mono (Kd.R_far (p := ⟨gb143, 5, none⟩) (Kd.R_far (p := ⟨gb143, 4, none⟩) (Kd.R_far (p := ⟨gb143, 3, none⟩) (Kd.R_far (p := ⟨gb143, 2, none⟩) (Kd.R_far (p := ⟨gb143, 1, none⟩) (Kd.R_far (p := ⟨gb143, 0, none⟩) (Kd.R_types HO146.out BK143.out (by decide)) (fun _ hk => hk.2) (.int .i64 3)) (fun _ hk => hk.2) (.slice none 0 0)) (fun _ hk => hk.2) (.slice Ao14 y144.length co14)) (fun _ hk => hk.2) (.slice Ao13 y147.length co13)) (fun _ hk => hk.2) (.slice Ao12 y150.length co12)) (fun _ hk => hk.2) (.slice Ao11 y153.length co11)) (fun _ hk => ⟨hk.1.1.1.2, ⟨hk.1.1.2, hk.1.2⟩⟩), by (with_reducible repeat (first | apply Kd.R_alloc | apply Kd.R_drewN | apply Kd.R_drew)); exact Kd.R_mono (Kd.R_far (p := ⟨gb143, 5, none⟩) (Kd.R_far (p := ⟨gb143, 4, none⟩) (Kd.R_far (p := ⟨gb143, 3, none⟩) (Kd.R_far (p := ⟨gb143, 2, none⟩) (Kd.R_far (p := ⟨gb143, 1, none⟩) (Kd.R_far (p := ⟨gb143, 0, none⟩) (Kd.R_types HO149.out BK143.out (by decide)) (fun _ hk => hk.2) (.int .i64 3)) (fun _ hk => hk.2) (.slice none 0 0)) (fun _ hk => hk.2) (.slice Ao14 y144.length co14)) (fun _ hk => hk.2) (.slice Ao13 y147.length co13)) (fun _ hk => hk.2) (.slice Ao12 y150.length co12)) (fun _ hk => hk.2) (.slice Ao11 y153.length co11)) (fun _ hk => ⟨hk.1.1.1.2, ⟨hk.1.1.2, hk.1.2⟩⟩), by (with_reducible repeat (first | apply Kd.R_alloc | apply Kd.R_drewN | apply Kd.R_drew)); exact Kd.R_mono (Kd.R_far (p := ⟨gb143, 5, none⟩) (Kd.R_far (p := ⟨gb143, 4, none⟩) (Kd.R_far (p := ⟨gb143, 3, none⟩) (Kd.R_far (p := ⟨gb143, 2, none⟩) (Kd.R_far (p := ⟨gb143, 1, none⟩) (Kd.R_far (p := ⟨gb143, 0, none⟩) (Kd.R_types HO152.out BK143.out (by decide)) (fun _ hk => hk.2) (.int .i64 3)) (fun _ hk => hk.2) (.slice none 0 0)) (fun _ hk => hk.2) (.slice Ao14 y144.length co14)) (fun _ hk => hk.2) (.slice Ao13 y147.length co13)) (fun _ hk => hk.2) (.slice Ao12 y150.length co12)) (fun _ hk => hk.2) (.slice Ao11 y153.length co11)) (fun _ hk => ⟨hk.1.1.1.2, ⟨hk.1.1.2, hk.1.2⟩⟩), by (with_reducible repeat (first | apply Kd.R_alloc | apply Kd.R_drewN | apply Kd.R_drew)); exact Kd.R_mono (Kd.R_far (p := ⟨gb143, 5, none⟩) (Kd.R_far (p := ⟨gb143, 4, none⟩) (Kd.R_far (p := ⟨gb143, 3, none⟩) (Kd.R_far (p := ⟨gb143, 2, none⟩) (Kd.R_far (p := ⟨gb143, 1, none⟩) (Kd.R_far (p := ⟨gb143, 0, none⟩) (Kd.R_types HO155.out BK143.out (by decide)) (fun _ hk => hk.2) (.int .i64 3)) (fun _ hk => hk.2) (.slice none 0 0)) (fun _ hk => hk.2) (.slice Ao14 y144.length co14)) (fun _ hk => hk.2) (.slice Ao13 y147.length co13)) (fun _ hk => hk.2) (.slice Ao12 y150.length co12)) (fun _ hk => hk.2) (.slice Ao11 y153.length co11)) (fun _ hk => ⟨hk.1.1.1.2, ⟨hk.1.1.2, hk.1.2⟩⟩), by repeat (first | (with_reducible first | exact HB.out | apply below_alloc | apply pw_below_drewN | apply below_drew1 | refine below_set ?_ GE143.out) | exact HB.out)⟩
end Go.Proofs.Ytjbjofmcmjojlaa.Wk
end
section
namespace Go.Proofs.Ytjbjofmcmjojlaa.Wk
open Go.RowKit Go.Proofs.YtjbjofmcmjojlaaW.PrintWords Go.Proofs.YtjbjofmcmjojlaaW.PrintLast Go.Proofs.YtjbjofmcmjojlaaW.PrintMore
attribute [local go_sem] max2_int min2_int max_two min_two max_three min_three max_four min_four
set_option linter.unusedVariables false
set_option linter.unusedSimpArgs false
def slabvaultlaw12_lives.f (k : Nat)  : Option (Bool) := (space_Elements.f (([2, 3] : List Int))).bind fun bt155 => ((slabvaultlaw12_slab.f 1).bind fun bt160 => ((space_Places.f k (([2, 3] : List Int)) bt160.1 bt160.2.1 bt160.2.2.1 bt160.2.2.2.1 bt160.2.2.2.2.1 bt160.2.2.2.2.2).bind fun bt176 => (if bt155.1 = 6 then (if bt155.2 = 0 then ((slabvaultlaw12_ints.f k bt176.1 (([1, 2, 4, 5] : List Int))).bind fun t183 => (if t183 = true then (if bt176.2 = 0 then ((slabvaultlaw12_slab.f 2).bind fun bt187 => ((space_Check.f k (([2, 3] : List Int)) bt187.1 bt187.2.1 bt187.2.2.1 bt187.2.2.2.1 bt187.2.2.2.2.1 bt187.2.2.2.2.2).bind fun t203 => (if t203 = 17 then (some true) else (none)))) else (none)) else (none))) else (none)) else (none))))
theorem slabvaultlaw12_lives.mono : ∀ k, LeO (slabvaultlaw12_lives.f k ) (slabvaultlaw12_lives.f (k + 1) ) := by
 intro  k
 unfold slabvaultlaw12_lives.f
 repeat' first
  | (with_reducible exact slabvaultlaw12_ints.mono _ _ _)
  | (with_reducible exact space_Check.mono _ _ _ _ _ _ _ _)
  | (with_reducible exact space_Places.mono _ _ _ _ _ _ _ _)
  | (with_reducible exact LeO.refl _)
  | (with_reducible exact LeO.none _)
  | (with_reducible refine LeO.ite ?_ ?_)
  | (with_reducible refine LeO.bind ?_ (fun _ => ?_))
  | exact slabvaultlaw12_ints.mono _ _ _
  | exact space_Check.mono _ _ _ _ _ _ _ _
  | exact space_Places.mono _ _ _ _ _ _ _ _
  | exact LeO.none _
  | refine LeO.ite ?_ ?_
  | refine LeO.bind ?_ (fun _ => ?_)
set_option maxHeartbeats 8000000 in
set_option maxRecDepth 100000 in
theorem slabvaultlaw12_lives.calls (k : Nat)  (r : Bool) (w : World) (h : slabvaultlaw12_lives.f k  = some r) :
 Calls Try.prog 13 #[] w fun e w' => e = .returned (.bool r) ∧ Below w.heap.size w w' := by
 have HB := Aside0.mk (Below.refl w.heap.size w)
 have H : ((space_Elements.f (([2, 3] : List Int))).bind fun bt155 => ((slabvaultlaw12_slab.f 1).bind fun bt160 => ((space_Places.f k (([2, 3] : List Int)) bt160.1 bt160.2.1 bt160.2.2.1 bt160.2.2.2.1 bt160.2.2.2.2.1 bt160.2.2.2.2.2).bind fun bt176 => (if bt155.1 = 6 then (if bt155.2 = 0 then ((slabvaultlaw12_ints.f k bt176.1 (([1, 2, 4, 5] : List Int))).bind fun t183 => (if t183 = true then (if bt176.2 = 0 then ((slabvaultlaw12_slab.f 2).bind fun bt187 => ((space_Check.f k (([2, 3] : List Int)) bt187.1 bt187.2.1 bt187.2.2.1 bt187.2.2.2.1 bt187.2.2.2.2.1 bt187.2.2.2.2.2).bind fun t203 => (if t203 = 17 then (some true) else (none)))) else (none)) else (none))) else (none)) else (none))))) = some r := h
 clear h
 obtain ⟨y152, hy152⟩ : ∃ y_ : List Int, y_ = (([2, 3] : List Int)) := ⟨_, rfl⟩
 replace H : ((space_Elements.f y152).bind fun bt155 => ((slabvaultlaw12_slab.f 1).bind fun bt160 => ((space_Places.f k (([2, 3] : List Int)) bt160.1 bt160.2.1 bt160.2.2.1 bt160.2.2.2.1 bt160.2.2.2.2.1 bt160.2.2.2.2.2).bind fun bt176 => (if bt155.1 = 6 then (if bt155.2 = 0 then ((slabvaultlaw12_ints.f k bt176.1 (([1, 2, 4, 5] : List Int))).bind fun t183 => (if t183 = true then (if bt176.2 = 0 then ((slabvaultlaw12_slab.f 2).bind fun bt187 => ((space_Check.f k (([2, 3] : List Int)) bt187.1 bt187.2.1 bt187.2.2.1 bt187.2.2.2.1 bt187.2.2.2.2.1 bt187.2.2.2.2.2).bind fun t203 => (if t203 = 17 then (some true) else (none)))) else (none)) else (none))) else (none)) else (none))))) = some r := by (rw [hy152]; with_reducible exact H)
 have Ny152 := Aside0.mk hy152
 clear hy152
 replace H := Option.bind_eq_some_iff.mp H
 obtain ⟨⟨t155, t156⟩, A10, H⟩ := H
 replace H : ((slabvaultlaw12_slab.f 1).bind fun bt160 => ((space_Places.f k (([2, 3] : List Int)) bt160.1 bt160.2.1 bt160.2.2.1 bt160.2.2.2.1 bt160.2.2.2.2.1 bt160.2.2.2.2.2).bind fun bt176 => (if t155 = 6 then (if t156 = 0 then ((slabvaultlaw12_ints.f k bt176.1 (([1, 2, 4, 5] : List Int))).bind fun t183 => (if t183 = true then (if bt176.2 = 0 then ((slabvaultlaw12_slab.f 2).bind fun bt187 => ((space_Check.f k (([2, 3] : List Int)) bt187.1 bt187.2.1 bt187.2.2.1 bt187.2.2.2.1 bt187.2.2.2.2.1 bt187.2.2.2.2.2).bind fun t203 => (if t203 = 17 then (some true) else (none)))) else (none)) else (none))) else (none)) else (none)))) = some r := H
 have A1 := Aside0.mk A10
 clear A10
 obtain ⟨y157, hy157⟩ : ∃ y_ : List Int, y_ = (([2, 3] : List Int)) := ⟨_, rfl⟩
 replace H : ((slabvaultlaw12_slab.f 1).bind fun bt160 => ((space_Places.f k y157 bt160.1 bt160.2.1 bt160.2.2.1 bt160.2.2.2.1 bt160.2.2.2.2.1 bt160.2.2.2.2.2).bind fun bt176 => (if t155 = 6 then (if t156 = 0 then ((slabvaultlaw12_ints.f k bt176.1 (([1, 2, 4, 5] : List Int))).bind fun t183 => (if t183 = true then (if bt176.2 = 0 then ((slabvaultlaw12_slab.f 2).bind fun bt187 => ((space_Check.f k (([2, 3] : List Int)) bt187.1 bt187.2.1 bt187.2.2.1 bt187.2.2.2.1 bt187.2.2.2.2.1 bt187.2.2.2.2.2).bind fun t203 => (if t203 = 17 then (some true) else (none)))) else (none)) else (none))) else (none)) else (none)))) = some r := by (rw [hy157]; with_reducible exact H)
 have Ny157 := Aside0.mk hy157
 clear hy157
 replace H := Option.bind_eq_some_iff.mp H
 obtain ⟨⟨t160, t161, t164, t167, t170, t173⟩, A20, H⟩ := H
 replace H : ((space_Places.f k y157 t160 t161 t164 t167 t170 t173).bind fun bt176 => (if t155 = 6 then (if t156 = 0 then ((slabvaultlaw12_ints.f k bt176.1 (([1, 2, 4, 5] : List Int))).bind fun t183 => (if t183 = true then (if bt176.2 = 0 then ((slabvaultlaw12_slab.f 2).bind fun bt187 => ((space_Check.f k (([2, 3] : List Int)) bt187.1 bt187.2.1 bt187.2.2.1 bt187.2.2.2.1 bt187.2.2.2.2.1 bt187.2.2.2.2.2).bind fun t203 => (if t203 = 17 then (some true) else (none)))) else (none)) else (none))) else (none)) else (none))) = some r := H
 have A2 := Aside0.mk A20
 clear A20
 replace H := Option.bind_eq_some_iff.mp H
 obtain ⟨⟨t176, t179⟩, A30, H⟩ := H
 replace H : (if t155 = 6 then (if t156 = 0 then ((slabvaultlaw12_ints.f k t176 (([1, 2, 4, 5] : List Int))).bind fun t183 => (if t183 = true then (if t179 = 0 then ((slabvaultlaw12_slab.f 2).bind fun bt187 => ((space_Check.f k (([2, 3] : List Int)) bt187.1 bt187.2.1 bt187.2.2.1 bt187.2.2.2.1 bt187.2.2.2.2.1 bt187.2.2.2.2.2).bind fun t203 => (if t203 = 17 then (some true) else (none)))) else (none)) else (none))) else (none)) else (none)) = some r := H
 have A3 := Aside0.mk A30
 clear A30
 by_cases c4 : t155 = 6
 ·rw [if_pos c4] at H
  have c4b0 : (t155 == 6) = true := beq_iff_eq.mpr c4
  have c4b1 : (t155 != 6) = false := bne_eq_false_iff_eq.mpr c4
  clear c4
  by_cases c5 : t156 = 0
  case neg => rw [if_neg c5] at H; exact absurd H (by simp)
  rw [if_pos c5] at H
  have c5b0 : (t156 == 0) = true := beq_iff_eq.mpr c5
  have c5b1 : (t156 != 0) = false := bne_eq_false_iff_eq.mpr c5
  clear c5
  obtain ⟨y180, hy180⟩ : ∃ y_ : List Int, y_ = (([1, 2, 4, 5] : List Int)) := ⟨_, rfl⟩
  replace H : ((slabvaultlaw12_ints.f k t176 y180).bind fun t183 => (if t183 = true then (if t179 = 0 then ((slabvaultlaw12_slab.f 2).bind fun bt187 => ((space_Check.f k (([2, 3] : List Int)) bt187.1 bt187.2.1 bt187.2.2.1 bt187.2.2.2.1 bt187.2.2.2.2.1 bt187.2.2.2.2.2).bind fun t203 => (if t203 = 17 then (some true) else (none)))) else (none)) else (none))) = some r := by (rw [hy180]; with_reducible exact H)
  have Ny180 := Aside0.mk hy180
  clear hy180
  replace H := Option.bind_eq_some_iff.mp H
  obtain ⟨t183, A60, H⟩ := H
  replace H : (if t183 = true then (if t179 = 0 then ((slabvaultlaw12_slab.f 2).bind fun bt187 => ((space_Check.f k (([2, 3] : List Int)) bt187.1 bt187.2.1 bt187.2.2.1 bt187.2.2.2.1 bt187.2.2.2.2.1 bt187.2.2.2.2.2).bind fun t203 => (if t203 = 17 then (some true) else (none)))) else (none)) else (none)) = some r := H
  have A6 := Aside0.mk A60
  clear A60
  by_cases c7 : t183 = true
  ·subst c7
   have H1 : (if t179 = 0 then ((slabvaultlaw12_slab.f 2).bind fun bt187 => ((space_Check.f k (([2, 3] : List Int)) bt187.1 bt187.2.1 bt187.2.2.1 bt187.2.2.2.1 bt187.2.2.2.2.1 bt187.2.2.2.2.2).bind fun t203 => (if t203 = 17 then (some true) else (none)))) else (none)) = some r := by rw [if_pos rfl] at H; exact H
   clear H
   have H := H1
   clear H1
   by_cases c8 : t179 = 0
   case neg => rw [if_neg c8] at H; exact absurd H (by simp)
   rw [if_pos c8] at H
   have c8b0 : (t179 == 0) = true := beq_iff_eq.mpr c8
   have c8b1 : (t179 != 0) = false := bne_eq_false_iff_eq.mpr c8
   clear c8
   obtain ⟨y184, hy184⟩ : ∃ y_ : List Int, y_ = (([2, 3] : List Int)) := ⟨_, rfl⟩
   replace H : ((slabvaultlaw12_slab.f 2).bind fun bt187 => ((space_Check.f k y184 bt187.1 bt187.2.1 bt187.2.2.1 bt187.2.2.2.1 bt187.2.2.2.2.1 bt187.2.2.2.2.2).bind fun t203 => (if t203 = 17 then (some true) else (none)))) = some r := by (rw [hy184]; with_reducible exact H)
   have Ny184 := Aside0.mk hy184
   clear hy184
   replace H := Option.bind_eq_some_iff.mp H
   obtain ⟨⟨t187, t188, t191, t194, t197, t200⟩, A90, H⟩ := H
   replace H : ((space_Check.f k y184 t187 t188 t191 t194 t197 t200).bind fun t203 => (if t203 = 17 then (some true) else (none))) = some r := H
   have A9 := Aside0.mk A90
   clear A90
   replace H := Option.bind_eq_some_iff.mp H
   obtain ⟨t203, A100, H⟩ := H
   replace H : (if t203 = 17 then (some true) else (none)) = some r := H
   have A10 := Aside0.mk A100
   clear A100
   by_cases c11 : t203 = 17
   case neg => rw [if_neg c11] at H; exact absurd H (by simp)
   rw [if_pos c11] at H
   have c11b0 : (t203 == 17) = true := beq_iff_eq.mpr c11
   have c11b1 : (t203 != 17) = false := bne_eq_false_iff_eq.mpr c11
   clear c11
   obtain rfl := Option.some.inj H
   go_enter Try.func13, Try.ntmps13
   go_wp2_with (first | ((with_reducible refine gate_dst (N := 6) rfl ?_); ((refine gate_guard (by rfl) ?_; dsimp only)); refine Kd.R_lit (Kd.int .i64) _ 3 ?hg (N := 6) ?hd (xs := ([2, 3] : List Int)) (inner := [.int .i64 2, .int .i64 3]) (ok := fun _ => True) (okp := fun _ => True) ?hr ?hp (fun _ hk => hk) trivial (Below.refl _ _) (Nat.le_refl _) (by simp) ?_; (case hd => rfl); (case hg => rfl); (case hr => (go_simp; done)); (case hp => exact (Reps.one (show Kd.M (Kd.int .i64) _ _ _ 2 [.int .i64 2] from rfl) (Reps.one (show Kd.M (Kd.int .i64) _ _ _ 3 [.int .i64 3] from rfl) (Reps.none _ _)))); intro v153 w12 ho13 hb hg_ hnew_; clear hg_ hnew_; (rw [← Ny152.out] at ho13); have n0_ := Aside0.mk (Kd.R_lower ho13 (below_size (HB.out))); have n1_ := Aside0.mk (below_step (HB.out) hb); clear HB; have HO154 := n0_; have HB := n1_; clear n0_ n1_; clear hb ho13; obtain ⟨Ao14, co14, eo14⟩ := Kd.R_slice HO154.out; subst eo14) | ((with_reducible refine gate_callee (f := 11) rfl ?_); refine goesL_ (some 7) rfl rfl Try.func11 (by kernel_rfl) rfl #[.slice Ao14 y152.length co14] rfl (by (simp only [List.map_toArray, List.map_cons, List.map_nil]); rfl) ?_; (with_reducible refine (space_Elements.calls _ _ y152 t155 t156 _ ?side1 ?side2 A1.out).mono ?_); (case side1 => repeat (exact (Kd.R_reads' HO154.out).2.2)); (case side2 => exact (Kd.R_reads' HO154.out).2.1); rintro e w' ⟨rfl, ⟨nd, rfl⟩⟩; refine ⟨_, rfl, ?_⟩) | ((with_reducible refine gate_dst (N := 11) rfl ?_); ((refine gate_guard (by rfl) ?_; dsimp only)); refine Kd.R_lit (Kd.int .i64) _ 3 ?hg (N := 11) ?hd (xs := ([2, 3] : List Int)) (inner := [.int .i64 2, .int .i64 3]) (ok := fun _ => True) (okp := fun _ => True) ?hr ?hp (fun _ hk => hk) trivial (Below.refl _ _) (Nat.le_refl _) (by simp) ?_; (case hd => rfl); (case hg => rfl); (case hr => (go_simp; done)); (case hp => exact (Reps.one (show Kd.M (Kd.int .i64) _ _ _ 2 [.int .i64 2] from rfl) (Reps.one (show Kd.M (Kd.int .i64) _ _ _ 3 [.int .i64 3] from rfl) (Reps.none _ _)))); intro v158 w15 ho16 hb hg_ hnew_; clear hg_ hnew_; (rw [← Ny157.out] at ho16); have n0_ := Aside0.mk (Kd.R_elder' (by exact HO154.out) (Kd.R_base ho16) hb); have n1_ := Aside0.mk (Kd.R_lower (Kd.R_new' ho16 (Kd.R_lt (by exact HO154.out))) (below_size (by repeat ((with_reducible first | exact HB.out | apply pw_below_drewN))))); have n2_ := Aside0.mk (below_step (by repeat ((with_reducible first | exact HB.out | apply pw_below_drewN))) hb); clear HO154; clear HB; have HO154 := n0_; have HO159 := n1_; have HB := n2_; clear n0_ n1_ n2_; clear hb ho16) | ((with_reducible refine gate_callee (f := 29) rfl ?_); refine goesL_ (some 12) rfl rfl Try.func29 (by kernel_rfl) rfl #[.int .i64 1] rfl (by (simp only [List.map_toArray, List.map_cons, List.map_nil]); rfl) ?_; (with_reducible refine (slabvaultlaw12_slab.calls 1 t160 t161 t164 t167 t170 t173 _ A2.out).mono ?_); rintro e w17 ⟨v162, v165, v168, v171, v174, rfl, ho0, ho1, ho2, ho3, ho4, hb⟩; refine ⟨_, rfl, ?_⟩; have n0_ := Aside0.mk (Kd.R_mono (Kd.R_told (Kd.R_told (Kd.R_told (Kd.R_told (Kd.R_old (by exact HO154.out) hb) (Kd.R_base ho1)) (Kd.R_base ho2)) (Kd.R_base ho3)) (Kd.R_base ho4)) (fun _ h_ => h_.1)); have n1_ := Aside0.mk (Kd.R_mono (Kd.R_told (Kd.R_told (Kd.R_told (Kd.R_told (Kd.R_old (by exact HO159.out) hb) (Kd.R_base ho1)) (Kd.R_base ho2)) (Kd.R_base ho3)) (Kd.R_base ho4)) (fun _ h_ => h_.1)); have n2_ := Aside0.mk (Kd.S_lower (Kd.S_new' (Kd.S_new' ho0 (Kd.R_lt (by exact HO154.out))) (Kd.R_lt (by exact HO159.out))) (below_size (HB.out))); have n3_ := Aside0.mk (Kd.R_lower (Kd.R_new' (Kd.R_new' ho1 (Kd.R_lt (by exact HO154.out))) (Kd.R_lt (by exact HO159.out))) (below_size (HB.out))); have n4_ := Aside0.mk (Kd.R_lower (Kd.R_new' (Kd.R_new' ho2 (Kd.R_lt (by exact HO154.out))) (Kd.R_lt (by exact HO159.out))) (below_size (HB.out))); have n5_ := Aside0.mk (Kd.R_lower (Kd.R_new' (Kd.R_new' ho3 (Kd.R_lt (by exact HO154.out))) (Kd.R_lt (by exact HO159.out))) (below_size (HB.out))); have n6_ := Aside0.mk (Kd.R_lower (Kd.R_new' (Kd.R_new' ho4 (Kd.R_lt (by exact HO154.out))) (Kd.R_lt (by exact HO159.out))) (below_size (HB.out))); have n7_ := Aside0.mk (below_step (HB.out) hb); clear HO154; clear HO159; clear HB; have HO154 := n0_; have HO159 := n1_; have HO163 := n2_; have HO166 := n3_; have HO169 := n4_; have HO172 := n5_; have HO175 := n6_; have HB := n7_; clear n0_ n1_ n2_ n3_ n4_ n5_ n6_ n7_; (clear hb); (skip); (skip); (skip); (clear ho0); (clear ho1); (clear ho2); (clear ho3); (clear ho4); obtain ⟨Ao18, co18, eo18⟩ := Kd.R_slice HO159.out; subst eo18; obtain ⟨Ao19, co19, eo19⟩ := Kd.S_slice HO163.out; subst eo19; obtain ⟨Ao20, co20, eo20⟩ := Kd.R_slice HO166.out; subst eo20; obtain ⟨Ao21, co21, eo21⟩ := Kd.R_slice HO169.out; subst eo21; obtain ⟨Ao22, co22, eo22⟩ := Kd.R_slice HO172.out; subst eo22; obtain ⟨Ao23, co23, eo23⟩ := Kd.R_slice HO175.out; subst eo23) | ((with_reducible refine gate_callee (f := 15) rfl ?_); refine goesL_ (some 13) rfl rfl Try.func15 (by kernel_rfl) rfl #[.slice Ao18 y157.length co18, .agg #[.int .i64 t160, .slice Ao19 t161.length co19, .slice Ao20 t164.length co20, .slice Ao21 t167.length co21, .slice Ao22 t170.length co22, .slice Ao23 t173.length co23]] rfl (by (simp only [List.map_toArray, List.map_cons, List.map_nil]); rfl) ?_; (with_reducible refine (space_Places.calls k _ _ y157 t160 _ _ t161 _ _ t164 _ _ t167 _ _ t170 _ _ t173 t176 t179 _ ?side1 ?side2 ?side3 ?side4 ?side5 ?side6 ?side7 ?side8 ?side9 ?side10 ?side11 ?side12 A3.out).mono ?_); (case side1 => repeat (exact (Kd.R_reads' HO159.out).2.2)); (case side2 => exact (Kd.R_reads' HO159.out).2.1); (case side3 => repeat (exact (Kd.S_reads' HO163.out).2.2)); (case side4 => exact (Kd.S_reads' HO163.out).2.1); (case side5 => repeat (exact (Kd.R_reads' HO166.out).2.2)); (case side6 => exact (Kd.R_reads' HO166.out).2.1); (case side7 => repeat (exact (Kd.R_reads' HO169.out).2.2)); (case side8 => exact (Kd.R_reads' HO169.out).2.1); (case side9 => repeat (exact (Kd.R_reads' HO172.out).2.2)); (case side10 => exact (Kd.R_reads' HO172.out).2.1); (case side11 => repeat (exact (Kd.R_reads' HO175.out).2.2)); (case side12 => exact (Kd.R_reads' HO175.out).2.1); rintro e w24 ⟨v177, rfl, ho0, hb⟩; refine ⟨_, rfl, ?_⟩; have n0_ := Aside0.mk (Kd.R_elder' (by exact HO154.out) (Kd.R_base ho0) hb); have n1_ := Aside0.mk (Kd.R_elder' (by exact HO159.out) (Kd.R_base ho0) hb); have n2_ := Aside0.mk (Kd.S_elder' (by exact HO163.out) (Kd.R_base ho0) hb); have n3_ := Aside0.mk (Kd.R_elder' (by exact HO166.out) (Kd.R_base ho0) hb); have n4_ := Aside0.mk (Kd.R_elder' (by exact HO169.out) (Kd.R_base ho0) hb); have n5_ := Aside0.mk (Kd.R_elder' (by exact HO172.out) (Kd.R_base ho0) hb); have n6_ := Aside0.mk (Kd.R_elder' (by exact HO175.out) (Kd.R_base ho0) hb); have n7_ := Aside0.mk (Kd.R_lower (Kd.R_new' (Kd.R_new' (Kd.R_new' (Kd.R_new' (Kd.R_new' (Kd.R_new' ho0 (Kd.R_lt (by exact HO154.out))) (Kd.R_lt (by exact HO159.out))) (Kd.R_lt (by exact HO166.out))) (Kd.R_lt (by exact HO169.out))) (Kd.R_lt (by exact HO172.out))) (Kd.R_lt (by exact HO175.out))) (below_size (HB.out))); have n8_ := Aside0.mk (below_step (HB.out) hb); clear HO154; clear HO159; clear HO163; clear HO166; clear HO169; clear HO172; clear HO175; clear HB; have HO154 := n0_; have HO159 := n1_; have HO163 := n2_; have HO166 := n3_; have HO169 := n4_; have HO172 := n5_; have HO175 := n6_; have HO178 := n7_; have HB := n8_; clear n0_ n1_ n2_ n3_ n4_ n5_ n6_ n7_ n8_; (clear hb); (skip); (skip); (skip); (clear ho0)) | ((with_reducible refine gate_dst (N := 24) rfl ?_); ((refine gate_guard (by rfl) ?_; dsimp only)); refine Kd.R_lit (Kd.int .i64) _ 3 ?hg (N := 24) ?hd (xs := ([1, 2, 4, 5] : List Int)) (inner := [.int .i64 1, .int .i64 2, .int .i64 4, .int .i64 5]) (ok := fun _ => True) (okp := fun _ => True) ?hr ?hp (fun _ hk => hk) trivial (Below.refl _ _) (Nat.le_refl _) (by simp) ?_; (case hd => rfl); (case hg => rfl); (case hr => (go_simp; done)); (case hp => exact (Reps.one (show Kd.M (Kd.int .i64) _ _ _ 1 [.int .i64 1] from rfl) (Reps.one (show Kd.M (Kd.int .i64) _ _ _ 2 [.int .i64 2] from rfl) (Reps.one (show Kd.M (Kd.int .i64) _ _ _ 4 [.int .i64 4] from rfl) (Reps.one (show Kd.M (Kd.int .i64) _ _ _ 5 [.int .i64 5] from rfl) (Reps.none _ _)))))); intro v181 w25 ho26 hb hg_ hnew_; clear hg_ hnew_; (rw [← Ny180.out] at ho26); have n0_ := Aside0.mk (Kd.R_elder' (by exact HO154.out) (Kd.R_base ho26) hb); have n1_ := Aside0.mk (Kd.R_elder' (by exact HO159.out) (Kd.R_base ho26) hb); have n2_ := Aside0.mk (Kd.S_elder' (by exact HO163.out) (Kd.R_base ho26) hb); have n3_ := Aside0.mk (Kd.R_elder' (by exact HO166.out) (Kd.R_base ho26) hb); have n4_ := Aside0.mk (Kd.R_elder' (by exact HO169.out) (Kd.R_base ho26) hb); have n5_ := Aside0.mk (Kd.R_elder' (by exact HO172.out) (Kd.R_base ho26) hb); have n6_ := Aside0.mk (Kd.R_elder' (by exact HO175.out) (Kd.R_base ho26) hb); have n7_ := Aside0.mk (Kd.R_elder' (by exact HO178.out) (Kd.R_base ho26) hb); have n8_ := Aside0.mk (Kd.R_lower (Kd.R_new' (Kd.R_new' (Kd.R_new' (Kd.R_new' (Kd.R_new' (Kd.R_new' (Kd.R_new' ho26 (Kd.R_lt (by exact HO154.out))) (Kd.R_lt (by exact HO159.out))) (Kd.R_lt (by exact HO166.out))) (Kd.R_lt (by exact HO169.out))) (Kd.R_lt (by exact HO172.out))) (Kd.R_lt (by exact HO175.out))) (Kd.R_lt (by exact HO178.out))) (below_size (HB.out))); have n9_ := Aside0.mk (below_step (HB.out) hb); clear HO154; clear HO159; clear HO163; clear HO166; clear HO169; clear HO172; clear HO175; clear HO178; clear HB; have HO154 := n0_; have HO159 := n1_; have HO163 := n2_; have HO166 := n3_; have HO169 := n4_; have HO172 := n5_; have HO175 := n6_; have HO178 := n7_; have HO182 := n8_; have HB := n9_; clear n0_ n1_ n2_ n3_ n4_ n5_ n6_ n7_ n8_ n9_; clear hb ho26; obtain ⟨Ao27, co27, eo27⟩ := Kd.R_slice HO178.out; subst eo27; obtain ⟨Ao28, co28, eo28⟩ := Kd.R_slice HO182.out; subst eo28) | (go_at_call 17; (with_reducible refine (slabvaultlaw12_ints.calls k _ _ t176 _ _ y180 true _ ?side1 ?side2 ?side3 ?side4 A6.out).mono ?_); (case side1 => repeat (exact (Kd.R_reads' HO178.out).2.2)); (case side2 => exact (Kd.R_reads' HO178.out).2.1); (case side3 => repeat (exact (Kd.R_reads' HO182.out).2.2)); (case side4 => exact (Kd.R_reads' HO182.out).2.1); rintro e w' ⟨rfl, ⟨nd, rfl⟩⟩) | ((with_reducible refine gate_dst (N := 32) rfl ?_); ((refine gate_guard (by rfl) ?_; dsimp only)); refine Kd.R_lit (Kd.int .i64) _ 3 ?hg (N := 32) ?hd (xs := ([2, 3] : List Int)) (inner := [.int .i64 2, .int .i64 3]) (ok := fun _ => True) (okp := fun _ => True) ?hr ?hp (fun _ hk => hk) trivial (Below.refl _ _) (Nat.le_refl _) (by simp) ?_; (case hd => rfl); (case hg => rfl); (case hr => (go_simp; done)); (case hp => exact (Reps.one (show Kd.M (Kd.int .i64) _ _ _ 2 [.int .i64 2] from rfl) (Reps.one (show Kd.M (Kd.int .i64) _ _ _ 3 [.int .i64 3] from rfl) (Reps.none _ _)))); intro v185 w29 ho30 hb hg_ hnew_; clear hg_ hnew_; (rw [← Ny184.out] at ho30); have n0_ := Aside0.mk (Kd.R_elder' (by exact HO154.out) (Kd.R_base ho30) hb); have n1_ := Aside0.mk (Kd.R_elder' (by exact HO159.out) (Kd.R_base ho30) hb); have n2_ := Aside0.mk (Kd.S_elder' (by exact HO163.out) (Kd.R_base ho30) hb); have n3_ := Aside0.mk (Kd.R_elder' (by exact HO166.out) (Kd.R_base ho30) hb); have n4_ := Aside0.mk (Kd.R_elder' (by exact HO169.out) (Kd.R_base ho30) hb); have n5_ := Aside0.mk (Kd.R_elder' (by exact HO172.out) (Kd.R_base ho30) hb); have n6_ := Aside0.mk (Kd.R_elder' (by exact HO175.out) (Kd.R_base ho30) hb); have n7_ := Aside0.mk (Kd.R_elder' (by exact HO178.out) (Kd.R_base ho30) hb); have n8_ := Aside0.mk (Kd.R_elder' (by exact HO182.out) (Kd.R_base ho30) hb); have n9_ := Aside0.mk (Kd.R_lower (Kd.R_new' (Kd.R_new' (Kd.R_new' (Kd.R_new' (Kd.R_new' (Kd.R_new' (Kd.R_new' (Kd.R_new' ho30 (Kd.R_lt (by exact HO154.out))) (Kd.R_lt (by exact HO159.out))) (Kd.R_lt (by exact HO166.out))) (Kd.R_lt (by exact HO169.out))) (Kd.R_lt (by exact HO172.out))) (Kd.R_lt (by exact HO175.out))) (Kd.R_lt (by exact HO178.out))) (Kd.R_lt (by exact HO182.out))) (below_size (by repeat ((with_reducible first | exact HB.out | apply pw_below_drewN))))); have n10_ := Aside0.mk (below_step (by repeat ((with_reducible first | exact HB.out | apply pw_below_drewN))) hb); clear HO154; clear HO159; clear HO163; clear HO166; clear HO169; clear HO172; clear HO175; clear HO178; clear HO182; clear HB; have HO154 := n0_; have HO159 := n1_; have HO163 := n2_; have HO166 := n3_; have HO169 := n4_; have HO172 := n5_; have HO175 := n6_; have HO178 := n7_; have HO182 := n8_; have HO186 := n9_; have HB := n10_; clear n0_ n1_ n2_ n3_ n4_ n5_ n6_ n7_ n8_ n9_ n10_; clear hb ho30) | (go_at_call 29; (with_reducible refine (slabvaultlaw12_slab.calls 2 t187 t188 t191 t194 t197 t200 _ A9.out).mono ?_); rintro e w31 ⟨v189, v192, v195, v198, v201, rfl, ho0, ho1, ho2, ho3, ho4, hb⟩; have n0_ := Aside0.mk (Kd.R_mono (Kd.R_told (Kd.R_told (Kd.R_told (Kd.R_told (Kd.R_old (by exact HO154.out) hb) (Kd.R_base ho1)) (Kd.R_base ho2)) (Kd.R_base ho3)) (Kd.R_base ho4)) (fun _ h_ => h_.1)); have n1_ := Aside0.mk (Kd.R_mono (Kd.R_told (Kd.R_told (Kd.R_told (Kd.R_told (Kd.R_old (by exact HO159.out) hb) (Kd.R_base ho1)) (Kd.R_base ho2)) (Kd.R_base ho3)) (Kd.R_base ho4)) (fun _ h_ => h_.1)); have n2_ := Aside0.mk (Kd.S_mono (Kd.S_told (Kd.S_told (Kd.S_told (Kd.S_told (Kd.S_told (Kd.S_old (by exact HO163.out) hb) (Kd.S_base ho0)) (Kd.R_base ho1)) (Kd.R_base ho2)) (Kd.R_base ho3)) (Kd.R_base ho4)) (fun _ h_ => h_.1)); have n3_ := Aside0.mk (Kd.R_mono (Kd.R_told (Kd.R_told (Kd.R_told (Kd.R_told (Kd.R_old (by exact HO166.out) hb) (Kd.R_base ho1)) (Kd.R_base ho2)) (Kd.R_base ho3)) (Kd.R_base ho4)) (fun _ h_ => h_.1)); have n4_ := Aside0.mk (Kd.R_mono (Kd.R_told (Kd.R_told (Kd.R_told (Kd.R_told (Kd.R_old (by exact HO169.out) hb) (Kd.R_base ho1)) (Kd.R_base ho2)) (Kd.R_base ho3)) (Kd.R_base ho4)) (fun _ h_ => h_.1)); have n5_ := Aside0.mk (Kd.R_mono (Kd.R_told (Kd.R_told (Kd.R_told (Kd.R_told (Kd.R_old (by exact HO172.out) hb) (Kd.R_base ho1)) (Kd.R_base ho2)) (Kd.R_base ho3)) (Kd.R_base ho4)) (fun _ h_ => h_.1)); have n6_ := Aside0.mk (Kd.R_mono (Kd.R_told (Kd.R_told (Kd.R_told (Kd.R_told (Kd.R_old (by exact HO175.out) hb) (Kd.R_base ho1)) (Kd.R_base ho2)) (Kd.R_base ho3)) (Kd.R_base ho4)) (fun _ h_ => h_.1)); have n7_ := Aside0.mk (Kd.R_mono (Kd.R_told (Kd.R_told (Kd.R_told (Kd.R_told (Kd.R_old (by exact HO178.out) hb) (Kd.R_base ho1)) (Kd.R_base ho2)) (Kd.R_base ho3)) (Kd.R_base ho4)) (fun _ h_ => h_.1)); have n8_ := Aside0.mk (Kd.R_mono (Kd.R_told (Kd.R_told (Kd.R_told (Kd.R_told (Kd.R_old (by exact HO182.out) hb) (Kd.R_base ho1)) (Kd.R_base ho2)) (Kd.R_base ho3)) (Kd.R_base ho4)) (fun _ h_ => h_.1)); have n9_ := Aside0.mk (Kd.R_mono (Kd.R_told (Kd.R_told (Kd.R_told (Kd.R_told (Kd.R_old (by exact HO186.out) hb) (Kd.R_base ho1)) (Kd.R_base ho2)) (Kd.R_base ho3)) (Kd.R_base ho4)) (fun _ h_ => h_.1)); have n10_ := Aside0.mk (Kd.S_lower (Kd.S_new' (Kd.S_new' (Kd.S_new' (Kd.S_new' (Kd.S_new' (Kd.S_new' (Kd.S_new' (Kd.S_new' (Kd.S_new' (Kd.S_new' ho0 (Kd.R_lt (by exact HO154.out))) (Kd.R_lt (by exact HO159.out))) (Kd.S_lt (by exact HO163.out))) (Kd.R_lt (by exact HO166.out))) (Kd.R_lt (by exact HO169.out))) (Kd.R_lt (by exact HO172.out))) (Kd.R_lt (by exact HO175.out))) (Kd.R_lt (by exact HO178.out))) (Kd.R_lt (by exact HO182.out))) (Kd.R_lt (by exact HO186.out))) (below_size (HB.out))); have n11_ := Aside0.mk (Kd.R_lower (Kd.R_new' (Kd.R_new' (Kd.R_new' (Kd.R_new' (Kd.R_new' (Kd.R_new' (Kd.R_new' (Kd.R_new' (Kd.R_new' ho1 (Kd.R_lt (by exact HO154.out))) (Kd.R_lt (by exact HO159.out))) (Kd.R_lt (by exact HO166.out))) (Kd.R_lt (by exact HO169.out))) (Kd.R_lt (by exact HO172.out))) (Kd.R_lt (by exact HO175.out))) (Kd.R_lt (by exact HO178.out))) (Kd.R_lt (by exact HO182.out))) (Kd.R_lt (by exact HO186.out))) (below_size (HB.out))); have n12_ := Aside0.mk (Kd.R_lower (Kd.R_new' (Kd.R_new' (Kd.R_new' (Kd.R_new' (Kd.R_new' (Kd.R_new' (Kd.R_new' (Kd.R_new' (Kd.R_new' ho2 (Kd.R_lt (by exact HO154.out))) (Kd.R_lt (by exact HO159.out))) (Kd.R_lt (by exact HO166.out))) (Kd.R_lt (by exact HO169.out))) (Kd.R_lt (by exact HO172.out))) (Kd.R_lt (by exact HO175.out))) (Kd.R_lt (by exact HO178.out))) (Kd.R_lt (by exact HO182.out))) (Kd.R_lt (by exact HO186.out))) (below_size (HB.out))); have n13_ := Aside0.mk (Kd.R_lower (Kd.R_new' (Kd.R_new' (Kd.R_new' (Kd.R_new' (Kd.R_new' (Kd.R_new' (Kd.R_new' (Kd.R_new' (Kd.R_new' ho3 (Kd.R_lt (by exact HO154.out))) (Kd.R_lt (by exact HO159.out))) (Kd.R_lt (by exact HO166.out))) (Kd.R_lt (by exact HO169.out))) (Kd.R_lt (by exact HO172.out))) (Kd.R_lt (by exact HO175.out))) (Kd.R_lt (by exact HO178.out))) (Kd.R_lt (by exact HO182.out))) (Kd.R_lt (by exact HO186.out))) (below_size (HB.out))); have n14_ := Aside0.mk (Kd.R_lower (Kd.R_new' (Kd.R_new' (Kd.R_new' (Kd.R_new' (Kd.R_new' (Kd.R_new' (Kd.R_new' (Kd.R_new' (Kd.R_new' ho4 (Kd.R_lt (by exact HO154.out))) (Kd.R_lt (by exact HO159.out))) (Kd.R_lt (by exact HO166.out))) (Kd.R_lt (by exact HO169.out))) (Kd.R_lt (by exact HO172.out))) (Kd.R_lt (by exact HO175.out))) (Kd.R_lt (by exact HO178.out))) (Kd.R_lt (by exact HO182.out))) (Kd.R_lt (by exact HO186.out))) (below_size (HB.out))); have n15_ := Aside0.mk (below_step (HB.out) hb); clear HO154; clear HO159; clear HO163; clear HO166; clear HO169; clear HO172; clear HO175; clear HO178; clear HO182; clear HO186; clear HB; have HO154 := n0_; have HO159 := n1_; have HO163 := n2_; have HO166 := n3_; have HO169 := n4_; have HO172 := n5_; have HO175 := n6_; have HO178 := n7_; have HO182 := n8_; have HO186 := n9_; have HO190 := n10_; have HO193 := n11_; have HO196 := n12_; have HO199 := n13_; have HO202 := n14_; have HB := n15_; clear n0_ n1_ n2_ n3_ n4_ n5_ n6_ n7_ n8_ n9_ n10_ n11_ n12_ n13_ n14_ n15_; (clear hb); (skip); (skip); (skip); (clear ho0); (clear ho1); (clear ho2); (clear ho3); (clear ho4); obtain ⟨Ao32, co32, eo32⟩ := Kd.R_slice HO186.out; subst eo32; obtain ⟨Ao33, co33, eo33⟩ := Kd.S_slice HO190.out; subst eo33; obtain ⟨Ao34, co34, eo34⟩ := Kd.R_slice HO193.out; subst eo34; obtain ⟨Ao35, co35, eo35⟩ := Kd.R_slice HO196.out; subst eo35; obtain ⟨Ao36, co36, eo36⟩ := Kd.R_slice HO199.out; subst eo36; obtain ⟨Ao37, co37, eo37⟩ := Kd.R_slice HO202.out; subst eo37) | (go_at_call 18; (with_reducible refine (space_Check.calls k _ _ y184 t187 _ _ t188 _ _ t191 _ _ t194 _ _ t197 _ _ t200 t203 _ ?side1 ?side2 ?side3 ?side4 ?side5 ?side6 ?side7 ?side8 ?side9 ?side10 ?side11 ?side12 A10.out).mono ?_); (case side1 => repeat (exact (Kd.R_reads' HO186.out).2.2)); (case side2 => exact (Kd.R_reads' HO186.out).2.1); (case side3 => repeat (exact (Kd.S_reads' HO190.out).2.2)); (case side4 => exact (Kd.S_reads' HO190.out).2.1); (case side5 => repeat (exact (Kd.R_reads' HO193.out).2.2)); (case side6 => exact (Kd.R_reads' HO193.out).2.1); (case side7 => repeat (exact (Kd.R_reads' HO196.out).2.2)); (case side8 => exact (Kd.R_reads' HO196.out).2.1); (case side9 => repeat (exact (Kd.R_reads' HO199.out).2.2)); (case side10 => exact (Kd.R_reads' HO199.out).2.1); (case side11 => repeat (exact (Kd.R_reads' HO202.out).2.2)); (case side12 => exact (Kd.R_reads' HO202.out).2.1); rintro e w38 ⟨rfl, hb⟩; have n0_ := Aside0.mk (Kd.R_below (by exact HO154.out) hb); have n1_ := Aside0.mk (Kd.R_below (by exact HO159.out) hb); have n2_ := Aside0.mk (Kd.S_below (by exact HO163.out) hb); have n3_ := Aside0.mk (Kd.R_below (by exact HO166.out) hb); have n4_ := Aside0.mk (Kd.R_below (by exact HO169.out) hb); have n5_ := Aside0.mk (Kd.R_below (by exact HO172.out) hb); have n6_ := Aside0.mk (Kd.R_below (by exact HO175.out) hb); have n7_ := Aside0.mk (Kd.R_below (by exact HO178.out) hb); have n8_ := Aside0.mk (Kd.R_below (by exact HO182.out) hb); have n9_ := Aside0.mk (Kd.R_below (by exact HO186.out) hb); have n10_ := Aside0.mk (Kd.S_below (by exact HO190.out) hb); have n11_ := Aside0.mk (Kd.R_below (by exact HO193.out) hb); have n12_ := Aside0.mk (Kd.R_below (by exact HO196.out) hb); have n13_ := Aside0.mk (Kd.R_below (by exact HO199.out) hb); have n14_ := Aside0.mk (Kd.R_below (by exact HO202.out) hb); have n15_ := Aside0.mk (below_step (HB.out) hb); clear HO154; clear HO159; clear HO163; clear HO166; clear HO169; clear HO172; clear HO175; clear HO178; clear HO182; clear HO186; clear HO190; clear HO193; clear HO196; clear HO199; clear HO202; clear HB; have HO154 := n0_; have HO159 := n1_; have HO163 := n2_; have HO166 := n3_; have HO169 := n4_; have HO172 := n5_; have HO175 := n6_; have HO178 := n7_; have HO182 := n8_; have HO186 := n9_; have HO190 := n10_; have HO193 := n11_; have HO196 := n12_; have HO199 := n13_; have HO202 := n14_; have HB := n15_; clear n0_ n1_ n2_ n3_ n4_ n5_ n6_ n7_ n8_ n9_ n10_ n11_ n12_ n13_ n14_ n15_; (clear hb); (skip); (skip); (skip)))
   go_ret
   exact ⟨by rfl, HB.out⟩
  replace c7 := Bool.eq_false_iff.mpr c7
  subst c7
  have H1 : (none) = some r := by rw [if_neg (show ¬ (false = true) by decide)] at H; exact H
  clear H
  have H := H1
  clear H1
  exact absurd H (by simp)
 ·rw [if_neg c4] at H
  exact absurd H (by simp)
end Go.Proofs.Ytjbjofmcmjojlaa.Wk
end
section
namespace Go.Proofs.Ytjbjofmcmjojlaa.Wk
open Go.RowKit Go.Proofs.YtjbjofmcmjojlaaW.PrintWords Go.Proofs.YtjbjofmcmjojlaaW.PrintLast Go.Proofs.YtjbjofmcmjojlaaW.PrintMore
attribute [local go_sem] max2_int min2_int max_two min_two max_three min_three max_four min_four
set_option linter.unusedVariables false
set_option linter.unusedSimpArgs false
def slabvaultlaw12_great.l0 : Nat → Int → Int → Int → List (List Int) → List Int → List Int → List Int → List Int → Option (Bool)
  | 0, _, _, _, _, _, _, _, _ => none
  | k + 1, x3, x4, x214000, x214001, x214002, x214003, x214004, x214005 => if x4 < (x214001.length : Int) then (if 0 ≤ x4 then (if (wrap64 (x3 + ((rd_L1 x214001 x4).length : Int))) > 30000 then (some true) else (slabvaultlaw12_great.l0 k (wrap64 (x3 + ((rd_L1 x214001 x4).length : Int))) (wrap64 (x4 + 1)) x214000 x214001 x214002 x214003 x214004 x214005)) else (none)) else (some (decide (x3 > 30000)))
def slabvaultlaw12_great.f (k : Nat) (a0_0 : Int) (l0_1 : List (List Int)) (l0_2 : List Int) (l0_3 : List Int) (l0_4 : List Int) (l0_5 : List Int) : Option (Bool) := slabvaultlaw12_great.l0 k (l0_1.length : Int) 0 a0_0 l0_1 l0_2 l0_3 l0_4 l0_5
set_option maxHeartbeats 8000000 in
set_option maxRecDepth 100000 in
theorem slabvaultlaw12_great.calls (k : Nat) (a0_0 : Int) (A0_1 : Option Addr) (c0_1 : Nat) (l0_1 : List (List Int)) (A0_2 : Option Addr) (c0_2 : Nat) (l0_2 : List Int) (A0_3 : Option Addr) (c0_3 : Nat) (l0_3 : List Int) (A0_4 : Option Addr) (c0_4 : Nat) (l0_4 : List Int) (A0_5 : Option Addr) (c0_5 : Nat) (l0_5 : List Int) (r : Bool) (w : World) (hr0_1 : Kd.C (Kd.slice 3 (Kd.int .i64)) w A0_1 l0_1.length l0_1) (hc0_1 : l0_1.length ≤ c0_1) (hr0_2 : Kd.C (Kd.int .i64) w A0_2 l0_2.length l0_2) (hc0_2 : l0_2.length ≤ c0_2) (hr0_3 : Kd.C (Kd.int .i64) w A0_3 l0_3.length l0_3) (hc0_3 : l0_3.length ≤ c0_3) (hr0_4 : Kd.C (Kd.int .i64) w A0_4 l0_4.length l0_4) (hc0_4 : l0_4.length ≤ c0_4) (hr0_5 : Kd.C (Kd.int .i64) w A0_5 l0_5.length l0_5) (hc0_5 : l0_5.length ≤ c0_5) (h : slabvaultlaw12_great.f k a0_0 l0_1 l0_2 l0_3 l0_4 l0_5 = some r) :
    Calls Try.prog 14 #[.agg #[.int .i64 a0_0, .slice A0_1 l0_1.length c0_1, .slice A0_2 l0_2.length c0_2, .slice A0_3 l0_3.length c0_3, .slice A0_4 l0_4.length c0_4, .slice A0_5 l0_5.length c0_5]] w fun e w' => e = .returned (.bool r) ∧ Below w.heap.size w w' := by
  have hu33 := Try.underlying33
  have HR0_1 := Aside0.mk hr0_1
  have HC0_1 := Aside0.mk hc0_1
  clear hr0_1 hc0_1
  have HR0_2 := Aside0.mk hr0_2
  have HC0_2 := Aside0.mk hc0_2
  clear hr0_2 hc0_2
  have HR0_3 := Aside0.mk hr0_3
  have HC0_3 := Aside0.mk hc0_3
  clear hr0_3 hc0_3
  have HR0_4 := Aside0.mk hr0_4
  have HC0_4 := Aside0.mk hc0_4
  clear hr0_4 hc0_4
  have HR0_5 := Aside0.mk hr0_5
  have HC0_5 := Aside0.mk hc0_5
  clear hr0_5 hc0_5
  have HB := Aside0.mk (Below.refl w.heap.size w)
  have H : (slabvaultlaw12_great.l0 k (l0_1.length : Int) 0 a0_0 l0_1 l0_2 l0_3 l0_4 l0_5) = some r := h
  clear h
  have H' := Aside0.mk H
  clear H
  go_enter Try.func14, Try.ntmps14
  go_wp2_with (first | ((with_reducible refine gate_dst (N := 1) rfl ?_); refine box_event ?hg (N := 1) ?hd (cs := #[.int .i64 a0_0, .slice A0_1 l0_1.length c0_1, .slice A0_2 l0_2.length c0_2, .slice A0_3 l0_3.length c0_3, .slice A0_4 l0_4.length c0_4, .slice A0_5 l0_5.length c0_5]) (t := 33) ?hr ?_; (case hd => rfl); (case hg => rfl); (case hr => first | (go_simp; done) | (go_simp; rfl)); intro gb213 hg w2 hbox hb; have n0_ := Aside0.mk (below_step (by repeat (first | (with_reducible first | exact HB.out | apply below_alloc | apply pw_below_drewN | apply below_drew1) | exact HB.out)) hb); have n1_ := Aside0.mk (hbox); have n2_ := Aside0.mk ((by rw [hg]; exact (below_size (by repeat (first | (with_reducible first | exact HB.out | apply below_alloc | apply pw_below_drewN | apply below_drew1) | exact HB.out))) : w.heap.size ≤ gb213)); have n3_ := Aside0.mk ((by rw [hg]; exact (below_size (by repeat (first | (with_reducible first | exact HB.out | apply below_alloc | apply pw_below_drewN | apply below_drew1) | exact HB.out))) : w.heap.size ≤ gb213)); clear HB; have HB := n0_; have BK213 := n1_; have GW213 := n2_; have GE213 := n3_; clear n0_ n1_ n2_ n3_; clear hb hbox hg; have hcz3_0 : w2.cell? ⟨gb213, 0, none⟩ = some (.int .i64 a0_0) := (blk_cell BK213.out 0).trans rfl; have hcz3_1 : w2.cell? ⟨gb213, 1, none⟩ = some (.slice A0_1 l0_1.length c0_1) := (blk_cell BK213.out 1).trans rfl; have hcz3_2 : w2.cell? ⟨gb213, 2, none⟩ = some (.slice A0_2 l0_2.length c0_2) := (blk_cell BK213.out 2).trans rfl; have hcz3_3 : w2.cell? ⟨gb213, 3, none⟩ = some (.slice A0_3 l0_3.length c0_3) := (blk_cell BK213.out 3).trans rfl; have hcz3_4 : w2.cell? ⟨gb213, 4, none⟩ = some (.slice A0_4 l0_4.length c0_4) := (blk_cell BK213.out 4).trans rfl; have hcz3_5 : w2.cell? ⟨gb213, 5, none⟩ = some (.slice A0_5 l0_5.length c0_5) := (blk_cell BK213.out 5).trans rfl; have hfz3_0 := blk_frozen BK213.out 0; have hfz3_1 := blk_frozen BK213.out 1; have hfz3_2 := blk_frozen BK213.out 2; have hfz3_3 := blk_frozen BK213.out 3; have hfz3_4 := blk_frozen BK213.out 4; have hfz3_5 := blk_frozen BK213.out 5))
  go_loopg [3, 4] k (fun kq v3 v4 w' => ∃ (x3_1 : Int) (x4_1 : Int), v3 = .int .i64 x3_1 ∧ v4 = .int .i64 x4_1 ∧ Aside0 (slabvaultlaw12_great.l0 kq x3_1 x4_1 a0_0 l0_1 l0_2 l0_3 l0_4 l0_5 = some r) ∧ Aside0 (kq ≤ k) ∧ Aside0 (w'.heap[gb213]? = some (.cells #[.int .i64 a0_0, (.slice A0_1 l0_1.length c0_1), (.slice A0_2 l0_2.length c0_2), (.slice A0_3 l0_3.length c0_3), (.slice A0_4 l0_4.length c0_4), (.slice A0_5 l0_5.length c0_5)] 33 (0, 0))) ∧ Aside0 (Below w.heap.size w w'))
  case atStart => exact ⟨((l0_1.length : Int)), (0), (by first | rfl | (simp; done) | (simp [*]; done)), (by first | rfl | (simp; done) | (simp [*]; done)), H', ⟨Nat.le_refl _⟩, ⟨by (with_reducible repeat (first | refine blk_drewN ?_ _ | refine blk_drew ?_ | refine blk_alloc ?_ _)); exact BK213.out⟩, ⟨by repeat (first | (with_reducible first | exact HB.out | apply below_alloc | apply pw_below_drewN | apply below_drew1 | refine below_set ?_ GE213.out) | exact HB.out)⟩⟩
  case round =>
    clear H'
    try clear c1
    try clear p2
    try clear hcz3_0
    try clear hcz3_1
    try clear hcz3_2
    try clear hcz3_3
    try clear hcz3_4
    try clear hcz3_5
    try clear hfz3_0
    try clear hfz3_1
    try clear hfz3_2
    try clear hfz3_3
    try clear hfz3_4
    try clear hfz3_5
    obtain ⟨x3_1, x4_1, rfl, rfl, HA, HK1, BK213, HB⟩ := hrel
    cases gk with
    | zero => exact absurd HA.out (by simp [slabvaultlaw12_great.l0])
    | succ k1 =>
      have H := HA.out
      clear HA
      simp only [slabvaultlaw12_great.l0] at H
      by_cases c4 : x4_1 < (l0_1.length : Int)
      · rw [if_pos c4] at H
        have c4b0 : decide (x4_1 < (l0_1.length : Int)) = true := decide_eq_true c4
        clear c4
        by_cases c5 : 0 ≤ x4_1
        · rw [if_pos c5] at H
          have c5b0 : decide (0 ≤ x4_1) = true := decide_eq_true c5
          clear c5
          by_cases c6 : (wrap64 (x3_1 + ((rd_L1 l0_1 x4_1).length : Int))) > 30000
          · rw [if_pos c6] at H
            have c6b0 : decide (30000 < (wrap64 (x3_1 + ((rd_L1 l0_1 x4_1).length : Int)))) = true := decide_eq_true c6
            clear c6
            obtain rfl := Option.some.inj H
            have hcz7_0 : wr.cell? ⟨gb213, 0, none⟩ = some (.int .i64 a0_0) := (blk_cell BK213.out 0).trans rfl
            have hcz7_1 : wr.cell? ⟨gb213, 1, none⟩ = some (.slice A0_1 l0_1.length c0_1) := (blk_cell BK213.out 1).trans rfl
            have hcz7_2 : wr.cell? ⟨gb213, 2, none⟩ = some (.slice A0_2 l0_2.length c0_2) := (blk_cell BK213.out 2).trans rfl
            have hcz7_3 : wr.cell? ⟨gb213, 3, none⟩ = some (.slice A0_3 l0_3.length c0_3) := (blk_cell BK213.out 3).trans rfl
            have hcz7_4 : wr.cell? ⟨gb213, 4, none⟩ = some (.slice A0_4 l0_4.length c0_4) := (blk_cell BK213.out 4).trans rfl
            have hcz7_5 : wr.cell? ⟨gb213, 5, none⟩ = some (.slice A0_5 l0_5.length c0_5) := (blk_cell BK213.out 5).trans rfl
            have hfz7_0 := blk_frozen BK213.out 0
            have hfz7_1 := blk_frozen BK213.out 1
            have hfz7_2 := blk_frozen BK213.out 2
            have hfz7_3 := blk_frozen BK213.out 3
            have hfz7_4 := blk_frozen BK213.out 4
            have hfz7_5 := blk_frozen BK213.out 5
            have p214 : 0 ≤ (x4_1 : Int) := of_decide_eq_true (by first | (with_reducible assumption) | assumption)
            have q214 : x4_1 < (l0_1.length : Int) := of_decide_eq_true (by first | (with_reducible assumption) | assumption)
            obtain ⟨ad214, A214_0, c214_0, e214, hx214_0, hl214_0, hi214_0⟩ := at_L1 HR0_1.out x4_1 p214 q214
            cases e214
            replace hx214_0 := (HB.out.cell (World.block_lt_of_cell? w _ hx214_0)).trans hx214_0
            have HR214_0 := Aside0.mk hi214_0
            have HC214_0 := Aside0.mk hl214_0
            clear hi214_0 hl214_0
            replace p214 := eq_true p214
            replace q214 := eq_true q214
            go_wp2
            go_ret
            exact ⟨by first | rfl | (simp [errW_none, errW_some] <;> rfl) | (simp [*, errW_none, errW_some] <;> rfl), by repeat (first | (with_reducible first | exact HB.out | apply below_alloc | apply pw_below_drewN | apply below_drew1 | refine below_set ?_ GE213.out) | exact HB.out)⟩
          · rw [if_neg c6] at H
            have c6b0 : decide (30000 < (wrap64 (x3_1 + ((rd_L1 l0_1 x4_1).length : Int)))) = false := decide_eq_false c6
            clear c6
            have H' := Aside0.mk H
            clear H
            have hcz8_0 : wr.cell? ⟨gb213, 0, none⟩ = some (.int .i64 a0_0) := (blk_cell BK213.out 0).trans rfl
            have hcz8_1 : wr.cell? ⟨gb213, 1, none⟩ = some (.slice A0_1 l0_1.length c0_1) := (blk_cell BK213.out 1).trans rfl
            have hcz8_2 : wr.cell? ⟨gb213, 2, none⟩ = some (.slice A0_2 l0_2.length c0_2) := (blk_cell BK213.out 2).trans rfl
            have hcz8_3 : wr.cell? ⟨gb213, 3, none⟩ = some (.slice A0_3 l0_3.length c0_3) := (blk_cell BK213.out 3).trans rfl
            have hcz8_4 : wr.cell? ⟨gb213, 4, none⟩ = some (.slice A0_4 l0_4.length c0_4) := (blk_cell BK213.out 4).trans rfl
            have hcz8_5 : wr.cell? ⟨gb213, 5, none⟩ = some (.slice A0_5 l0_5.length c0_5) := (blk_cell BK213.out 5).trans rfl
            have hfz8_0 := blk_frozen BK213.out 0
            have hfz8_1 := blk_frozen BK213.out 1
            have hfz8_2 := blk_frozen BK213.out 2
            have hfz8_3 := blk_frozen BK213.out 3
            have hfz8_4 := blk_frozen BK213.out 4
            have hfz8_5 := blk_frozen BK213.out 5
            have p214 : 0 ≤ (x4_1 : Int) := of_decide_eq_true (by first | (with_reducible assumption) | assumption)
            have q214 : x4_1 < (l0_1.length : Int) := of_decide_eq_true (by first | (with_reducible assumption) | assumption)
            obtain ⟨ad214, A214_0, c214_0, e214, hx214_0, hl214_0, hi214_0⟩ := at_L1 HR0_1.out x4_1 p214 q214
            cases e214
            replace hx214_0 := (HB.out.cell (World.block_lt_of_cell? w _ hx214_0)).trans hx214_0
            have HR214_0 := Aside0.mk hi214_0
            have HC214_0 := Aside0.mk hl214_0
            clear hi214_0 hl214_0
            replace p214 := eq_true p214
            replace q214 := eq_true q214
            go_wp2
            go_roundg k1
            case measure => have := HK1.out; omega
            case rel => exact ⟨(wrap64 (x3_1 + ((rd_L1 l0_1 x4_1).length : Int))), (wrap64 (x4_1 + 1)), (by first | rfl | (simp; done) | (simp [*]; done)), (by first | rfl | (simp; done) | (simp [*]; done)), H', ⟨by have := HK1.out; omega⟩, ⟨by (with_reducible repeat (first | refine blk_drewN ?_ _ | refine blk_drew ?_ | refine blk_alloc ?_ _)); exact BK213.out⟩, ⟨by repeat (first | (with_reducible first | exact HB.out | apply below_alloc | apply pw_below_drewN | apply below_drew1 | refine below_set ?_ GE213.out) | exact HB.out)⟩⟩
        · rw [if_neg c5] at H
          exact absurd H (by simp)
      · rw [if_neg c4] at H
        have c4b0 : decide (x4_1 < (l0_1.length : Int)) = false := decide_eq_false c4
        clear c4
        obtain rfl := Option.some.inj H
        have hcz9_0 : wr.cell? ⟨gb213, 0, none⟩ = some (.int .i64 a0_0) := (blk_cell BK213.out 0).trans rfl
        have hcz9_1 : wr.cell? ⟨gb213, 1, none⟩ = some (.slice A0_1 l0_1.length c0_1) := (blk_cell BK213.out 1).trans rfl
        have hcz9_2 : wr.cell? ⟨gb213, 2, none⟩ = some (.slice A0_2 l0_2.length c0_2) := (blk_cell BK213.out 2).trans rfl
        have hcz9_3 : wr.cell? ⟨gb213, 3, none⟩ = some (.slice A0_3 l0_3.length c0_3) := (blk_cell BK213.out 3).trans rfl
        have hcz9_4 : wr.cell? ⟨gb213, 4, none⟩ = some (.slice A0_4 l0_4.length c0_4) := (blk_cell BK213.out 4).trans rfl
        have hcz9_5 : wr.cell? ⟨gb213, 5, none⟩ = some (.slice A0_5 l0_5.length c0_5) := (blk_cell BK213.out 5).trans rfl
        have hfz9_0 := blk_frozen BK213.out 0
        have hfz9_1 := blk_frozen BK213.out 1
        have hfz9_2 := blk_frozen BK213.out 2
        have hfz9_3 := blk_frozen BK213.out 3
        have hfz9_4 := blk_frozen BK213.out 4
        have hfz9_5 := blk_frozen BK213.out 5
        go_wp2
        go_ret
        exact ⟨by first | rfl | (simp [errW_none, errW_some] <;> rfl) | (simp [*, errW_none, errW_some] <;> rfl), by repeat (first | (with_reducible first | exact HB.out | apply below_alloc | apply pw_below_drewN | apply below_drew1 | refine below_set ?_ GE213.out) | exact HB.out)⟩
end Go.Proofs.Ytjbjofmcmjojlaa.Wk
end
section
namespace Go.Proofs.Ytjbjofmcmjojlaa.Wk
open Go.RowKit Go.Proofs.YtjbjofmcmjojlaaW.PrintWords Go.Proofs.YtjbjofmcmjojlaaW.PrintLast Go.Proofs.YtjbjofmcmjojlaaW.PrintMore
attribute [local go_sem] max2_int min2_int max_two min_two max_three min_three max_four min_four
set_option linter.unusedVariables false
set_option linter.unusedSimpArgs false
section
open Go.Proofs.YtjbjofmcmjojlaaQ
attribute [local go_sem] Oper.semAt_some
def space_Tuples.f (k : Nat) (l0 : List Int) (a1_0 : Int) (l1_1 : List (List Int)) (l1_2 : List Int) (l1_3 : List Int) (l1_4 : List Int) (l1_5 : List Int) : Option (List (List Int) × Int) :=
  (space_measured.f k l0 a1_0 l1_1 l1_2 l1_3 l1_4 l1_5).bind fun r =>
    if r.2 = 0 then (if r.1 = 0 then some ([], 0) else if SelOk l0 a1_0 l1_2 l1_3 l1_4 l1_5 ∧ (selTuples l0 a1_0 l1_1 l1_2 l1_3 l1_4 l1_5).length ≤ 4096 ∧ (∀ x ∈ selTuples l0 a1_0 l1_1 l1_2 l1_3 l1_4 l1_5, x.length ≤ l0.length) ∧ l0.length ≤ 4 ∧ 0 ≤ r.1 ∧ r.1 ≤ 4096 then some (selTuples l0 a1_0 l1_1 l1_2 l1_3 l1_4 l1_5, 0) else none)
    else some ([], r.2)
theorem one_box {w w1 : World} {b : Array Value} {t : TypeId} (hb : Below (w.alloc (.cells b t)).heap.size (w.alloc (.cells b t)) w1) :
    w1.heap[w.heap.size]? = some (.cells b t (0, 0)) ∧ Below w.heap.size w w1 := by
  have h1 := World.alloc_heap_new w (.cells b t)
  refine ⟨?_, ((Below.refl _ w).alloc (Nat.le_refl _) _).trans (hb.mono (by simp only [World.size_alloc]; omega))⟩
  rw [hb.block _ (by simp only [World.size_alloc]; omega), h1]
def TupInv (w wl w1 : World) (S : Nat → Prop) (pre : List (List Int)) (W : World) : Prop :=
  ∃ v, W.heap[w1.heap.size + 1]? = some (.cells #[v] 31 (0, 0)) ∧ ¬ S (w1.heap.size + 1) ∧ Kd.S (Kd.slice 3 (Kd.int .i64)) 22 W w.heap.size (fun k => ¬ S k ∧ k ≠ w1.heap.size + 1) v pre ∧ SameOn (placesS wl w1) wl W
theorem tupInv_bears (w wl w1 : World) : Bears (placesS wl w1) (TupInv w wl w1) where
  step := by
    rintro S pre A B ⟨v, h1, h2, h3, h4⟩ hs
    have hlt := (Array.getElem?_eq_some_iff.1 h1).1
    exact ⟨v, (hs.same _ (.inl h2) hlt).trans h1, h2, Kd.S_step h3 (fun k hk hl => hs.same k (.inl hk.1) hl), h4.trans (hs.mono (fun k h => .inr h))⟩
  more := by
    rintro S T pre A ⟨v, h1, h2, h3, h4⟩ ht
    have hlt := (Array.getElem?_eq_some_iff.1 h1).1
    refine ⟨v, h1, ?_, Kd.S_mono (Kd.S_bound h3) (fun k hk => ⟨?_, hk.1.2⟩), h4⟩
    · rintro (h | h)
      · exact h2 h
      · have := ht _ h; omega
    · rintro (h | h)
      · exact hk.1.1 h
      · have := ht _ h; have := hk.2.2.1; omega
theorem tupInv_put (w wl w1 : World) : ∀ S pre A (l : Nat) (o o' : Obj), TupInv w wl w1 S pre A → A.heap[l]? = some o → o.isCells = false → wl.heap.size ≤ l → TupInv w wl w1 S pre (A.putObj l o') := by
  rintro S pre A l o o' ⟨v, h1, h2, h3, h4⟩ hl ho hle
  refine ⟨v, ?_, h2, Kd.S_mono (Kd.S_step (Kd.S_bound h3) (fun k hk _ => ?_)) (fun k hk => hk.1), h4.trans (SameOn.putObj _ _ _ (fun h => by have := h.1; omega))⟩
  · rw [World.putObj_heap_other]
    · exact h1
    · rintro rfl
      rw [h1] at hl
      cases hl
      cases ho
  · refine World.putObj_heap_other ?_
    rintro rfl
    obtain ⟨_, _, _, q, _, cs, hc⟩ := hk
    rw [hc] at hl
    cases hl
    cases ho
theorem R_typed_S {d : Kd (List Int)} {e : Nat} {w : World} {base : Nat} {ok : Nat → Prop} {v : Value} {xs : List (List Int)} (h : Kd.S d e w base ok v xs) : ∀ k, v.ownBlock = some k → ∃ cells, w.heap[k]? = some (.cells cells e (0, 0)) := Kd.R_typed (Kd.S_R h)
theorem append_stepIn {F : Fence} {nn : Nat} {P : Program} (w : World) {ops : Array Oper} {o : Oper} {a : Act} {Q : Exit → Act → World → Prop} {K : Act → World → Prop}
    (hw : Region.wanted o (yielded ops a.tmps) = true) (s x : Operand) (t : TypeId) (hop : o.op = Op.call { callee := Callee.builtin Builtin.append, args := #[s, x], argTypes := #[t, t] })
    (base : Nat) (e : TypeId) (i : TypeInfo) (z : Value) (size bytes : Nat) (h1 : P.underlying t = some (.slice e)) (h2 : P.info? e = some i) (h3 : i.zero = some z) (h4 : i.size = size) (h5 : i.bytes = bytes) (h6 : z.cells.size = size) (h7 : 0 < size)
    (v : Value) (k : Nat) (xs : List Value) (hs : a.eval s = v) (hown : w.ownsRow base e size v k xs) (ad : Addr) (m c : Nat) (news : List Value) (hx : a.eval x = .slice (some ad) m c) (hn : news.length = m * size)
    (hc : ∀ j u, news[j]? = some u → w.cell? (ad.add j) = some u) (h1c : ∀ u ∈ news, u.oneCell' = true) (b1 : k + m ≤ maxLen) (b2 : (k + m) * bytes ≤ 140737488355328) (b3 : base ≤ w.heap.size)
    (hK : ∀ v' w', w'.ownsRow base e size v' (k + m) (xs ++ news) → w.grownBy w' v.ownBlock → (v'.ownBlock = v.ownBlock ∨ v'.ownBlock = some w.heap.size) → K (a.put o.dst v') w') :
    if Region.wanted o (yielded ops a.tmps) = true then Oper.wpIn F nn P o a w K Q else (∀ f, o.about P w a.eval = some f → F.fn f) ∧ K (a.put o.dst undef) w := by
  rw [if_pos hw]
  obtain ⟨v', w', hrun, r1, r2, _, r3⟩ := run_append_own_at (P := P) w base t o.type e i z size bytes h1 h2 h3 h4 h5 h6 h7 v k xs hown ad m c news hn hc h1c b1 b2 b3
  unfold Oper.wpIn
  refine ⟨?_, ?_⟩
  · simp [Oper.about, hop, resolve, Target.leads, Sem.run_pure]
  · rw [Oper.semAt_plain F _ _ (by rw [hop]; intro c hc'; cases hc')]
    simp [execOp, hop, resolve, invoke, builtin, hs, hx, hrun, Result.andThen]
    exact hK v' w' r1 r2 r3
theorem tup_ready (w wl w1 W w' : World) (S : Nat → Prop) (pre : List (List Int)) (x : List Int) (u : Value) (A31 : Option Addr) (c31 : Nat) (T : Obj)
    (hbox : W.heap[w1.heap.size + 1]? = some (.cells #[u] 31 (0, 0))) (hSb : ¬ S (w1.heap.size + 1)) (hrow : Kd.S (Kd.slice 3 (Kd.int .i64)) 22 W w.heap.size (fun k => ¬ S k ∧ k ≠ w1.heap.size + 1) u pre)
    (hsame : SameOn (placesS wl w1) wl W) (hS : ∀ k, S k → k < W.heap.size) (hsub : ∀ k, placesS wl w1 k → S k) (hle : w.heap.size ≤ W.heap.size)
    (hr31 : Kd.R (Kd.int .i64) 3 w' W.drew.heap.size (fun _ => True) (.slice A31 x.length c31) x) (hb : Below W.drew.heap.size W.drew w') :
    ∃ inner, (w'.alloc T).ownsRow w.heap.size 22 1 u pre.length inner ∧ ∀ v2 w2, w2.ownsRow w.heap.size 22 1 v2 (pre.length + 1) (inner ++ [.slice A31 x.length c31]) → (w'.alloc T).grownBy w2 u.ownBlock → (v2.ownBlock = u.ownBlock ∨ v2.ownBlock = some (w'.alloc T).heap.size) →
      w2.heap[w1.heap.size + 1]? = some (.cells #[u] 31 (0, 0)) ∧ KeepsOthers W (w2.setCell ⟨w1.heap.size + 1, 0, none⟩ v2) ∧ TupInv w wl w1 S (pre ++ [x]) (w2.setCell ⟨w1.heap.size + 1, 0, none⟩ v2) ∧ SameOn S W (w2.setCell ⟨w1.heap.size + 1, 0, none⟩ v2) := by
  have hlt := (Array.getElem?_eq_some_iff.1 hbox).1
  have hdz : W.drew.heap.size = W.heap.size := rfl
  have hbW : Below W.heap.size W w' := (below_drew (Below.refl _ _)).trans hb
  have hsz : W.heap.size ≤ w'.heap.size := hbW.size
  have hbD : Below W.heap.size W (w'.alloc T) := below_alloc hbW T
  have hsz2 : (w'.alloc T).heap.size = w'.heap.size + 1 := by simp
  have hu0 : ∀ k, u.ownBlock = some k → ¬ S k ∧ k ≠ w1.heap.size + 1 := fun k hk => (Kd.S_R hrow).1 k hk
  have hul := Kd.S_lt hrow
  have hSD := Kd.S_below (Kd.S_bound hrow) hbD
  obtain ⟨f, hf, h0, inner, ho, hr⟩ := Kd.S_tag hSD pre.length (fun k => W.heap.size ≤ k) (fun k hk h2 => by have := h2.2.2.1; omega)
  refine ⟨inner, by rw [List.length_zipIdx] at ho; exact ho, fun v2 w2 hown hg hat => ?_⟩
  have hb2 : w2.heap[w1.heap.size + 1]? = some (.cells #[u] 31 (0, 0)) := by
    rw [hg.block _ (by omega) (fun e => (hu0 _ e.symm).2 rfl)]
    exact (hbD.block _ hlt).trans hbox
  have hs : SameOn S W (w2.setCell ⟨w1.heap.size + 1, 0, none⟩ v2) := by
    have hbel : Below 0 (w'.alloc T) w2 := (Below.refl 0 _).grown hg (Nat.zero_le _) (fun k _ => Nat.zero_le _)
    exact ((SameOn.of_below hbD).trans (SameOn.of_grown hg hbel (fun k e => (hu0 k e).1))).trans (SameOn.setCell _ _ _ hSb)
  have hM : (Kd.slice 3 (Kd.int .i64)).M (w'.alloc T) w.heap.size (fun k => W.heap.size ≤ k) x [.slice A31 x.length c31] :=
    ⟨_, rfl, Kd.R_lower (Kd.R_mono (Kd.R_alloc (Kd.R_bound hr31) T) (fun k hk => by have := hk.2.1; omega)) hle⟩
  have hR := Kd.R_appended (d := Kd.tag f (Kd.slice 3 (Kd.int .i64))) (e := 22) (base := w.heap.size) (ok := fun k => ¬ S k ∧ k ≠ w1.heap.size + 1) (okp := fun k => W.heap.size ≤ k) (W := w'.alloc T) (w1 := w2) (v := u) (v1 := v2) (xs := pre.zipIdx) (p := (x, pre.length)) (inner := inner) (cs := [.slice A31 x.length c31])
    hu0 (hr.imp_ (fun _ _ hq => (Kd.tag f (Kd.slice 3 (Kd.int .i64))).M_mono (fun k hk => ⟨hk.1.1, hk.2⟩) hq)) ((Kd.slice 3 (Kd.int .i64)).M_mono (fun k hk => ⟨hk, hf k hk⟩) hM)
    (fun k hk => ⟨⟨fun h => by have := hS _ h; omega, by omega⟩, fun e => by have := hul k e.symm; omega⟩) (fun k hk => ⟨fun h => by have := hS _ h; omega, by omega⟩)
    (by rw [List.length_zipIdx]; exact hown) hg (by
      rcases hat with e | e
      · exact .inl e
      · exact .inr ⟨_, e, Nat.le_refl _⟩)
  rw [← Kd.zip_snoc] at hR
  refine ⟨hb2, ?_, ⟨v2, Boxed.set (t := 31) v2 hb2, hSb, Kd.S_far ⟨f, hR⟩ (fun k hk => hk.2) _, hsame.trans (hs.mono hsub)⟩, hs⟩
  refine ⟨hs.size, fun k o hk ho' => ?_⟩
  have hkl := (Array.getElem?_eq_some_iff.1 hk).1
  have hkb : k ≠ w1.heap.size + 1 := by
    rintro rfl
    rw [hbox] at hk
    cases hk
    cases ho'
  have hku : some k ≠ u.ownBlock := by
    intro e
    obtain ⟨cells, hc⟩ := R_typed_S hrow k e.symm
    rw [hk] at hc
    cases hc
    cases ho'
  rw [Below.heap_setCell w2 _ v2 k hkb, hg.block k (by omega) hku, hbD.block k hkl, hk]
set_option maxHeartbeats 8000000 in
set_option maxRecDepth 100000 in
theorem space_Tuples.calls (k : Nat) (A0 : Option Addr) (c0 : Nat) (l0 : List Int) (a1_0 : Int) (A1_1 : Option Addr) (c1_1 : Nat) (l1_1 : List (List Int)) (A1_2 : Option Addr) (c1_2 : Nat) (l1_2 : List Int) (A1_3 : Option Addr) (c1_3 : Nat) (l1_3 : List Int) (A1_4 : Option Addr) (c1_4 : Nat) (l1_4 : List Int) (A1_5 : Option Addr) (c1_5 : Nat) (l1_5 : List Int) (r1 : List (List Int)) (r2 : Int) (w : World) (hr0 : Kd.C (Kd.int .i64) w A0 l0.length l0) (hc0 : l0.length ≤ c0) (hr1_1 : Kd.C (Kd.slice 3 (Kd.int .i64)) w A1_1 l1_1.length l1_1) (hc1_1 : l1_1.length ≤ c1_1) (hr1_2 : Kd.C (Kd.int .i64) w A1_2 l1_2.length l1_2) (hc1_2 : l1_2.length ≤ c1_2) (hr1_3 : Kd.C (Kd.int .i64) w A1_3 l1_3.length l1_3) (hc1_3 : l1_3.length ≤ c1_3) (hr1_4 : Kd.C (Kd.int .i64) w A1_4 l1_4.length l1_4) (hc1_4 : l1_4.length ≤ c1_4) (hr1_5 : Kd.C (Kd.int .i64) w A1_5 l1_5.length l1_5) (hc1_5 : l1_5.length ≤ c1_5) (h : space_Tuples.f k l0 a1_0 l1_1 l1_2 l1_3 l1_4 l1_5 = some (r1, r2)) :
    Calls Try.prog 22 #[.slice A0 l0.length c0, .agg #[.int .i64 a1_0, .slice A1_1 l1_1.length c1_1, .slice A1_2 l1_2.length c1_2, .slice A1_3 l1_3.length c1_3, .slice A1_4 l1_4.length c1_4, .slice A1_5 l1_5.length c1_5]] w fun e w' => ∃ v0_ : Value, e = .returned (.tuple #[v0_, .int .i64 r2]) ∧ Kd.S (Kd.slice 3 (Kd.int .i64)) 22 w' w.heap.size (fun _ => True) v0_ r1 ∧ Below w.heap.size w w' := by
  unfold space_Tuples.f at h
  obtain ⟨⟨n, e⟩, hm, h⟩ := Option.bind_eq_some_iff.mp h
  have HM := Aside0.mk hm
  have HR0 := Aside0.mk hr0
  have HC0 := Aside0.mk hc0
  have HR1_1 := Aside0.mk hr1_1
  have HC1_1 := Aside0.mk hc1_1
  have HR1_2 := Aside0.mk hr1_2
  have HC1_2 := Aside0.mk hc1_2
  have HR1_3 := Aside0.mk hr1_3
  have HC1_3 := Aside0.mk hc1_3
  have HR1_4 := Aside0.mk hr1_4
  have HC1_4 := Aside0.mk hc1_4
  have HR1_5 := Aside0.mk hr1_5
  have HC1_5 := Aside0.mk hc1_5
  clear hm hr0 hc0 hr1_1 hc1_1 hr1_2 hc1_2 hr1_3 hc1_3 hr1_4 hc1_4 hr1_5 hc1_5
  have hu33 := Try.underlying33
  simp only at h
  by_cases he : e = 0
  · subst he
    rw [if_pos rfl] at h
    by_cases hn : n = 0
    · subst hn
      rw [if_pos rfl] at h
      cases h
      go_enter Try.func22, Try.ntmps22
      go_wp2_with (go_at_call 30; refine (space_measured.calls k A0 c0 l0 a1_0 A1_1 c1_1 l1_1 (fun _ => True) A1_2 c1_2 l1_2 (fun _ => True) A1_3 c1_3 l1_3 (fun _ => True) A1_4 c1_4 l1_4 (fun _ => True) A1_5 c1_5 l1_5 0 0 _ (Kd.C_alloc HR0.out _) HC0.out (Kd.C_alloc HR1_1.out _) HC1_1.out (V_of_ints (Kd.C_alloc HR1_2.out _) HC1_2.out) (V_of_ints (Kd.C_alloc HR1_3.out _) HC1_3.out) (V_of_ints (Kd.C_alloc HR1_4.out _) HC1_4.out) (V_of_ints (Kd.C_alloc HR1_5.out _) HC1_5.out) HM.out).mono ?_; rintro e_ w1 ⟨rfl, hb⟩)
      go_ret2
      exact ⟨_, rfl, Kd.S_nil _ _ _ _ _, (one_box hb).2⟩
    · rw [if_neg hn] at h
      split at h
      case isFalse => cases h
      case isTrue hq =>
      cases h
      obtain ⟨hok, hlen, hsub, hl4, hn0, hn1⟩ := hq
      have HOK := Aside0.mk hok
      have HLEN := Aside0.mk hlen
      have HSUB := Aside0.mk hsub
      clear hok hlen hsub
      have hnb : (n == 0) = false := by simpa using hn
      have hmk : ∀ W : World, (Instr.makeSlice 31 (.int .i64 0) (.int .i64 n)).run Try.prog W = .ok (.slice (some ⟨W.heap.size, 0, none⟩) 0 n.toNat) (W.alloc (.cells (madeCells #[.slice none 0 0] n.toNat) 22)) := fun W => by
        obtain ⟨i0, hi, hz⟩ := Option.map_eq_some_iff.1 (show (Try.prog.info? 22).map (fun i => (i.zero, i.size, i.bytes)) = some (some (.slice none 0 0), 1, 24) by kernel_rfl)
        simp only [Prod.mk.injEq] at hz
        have := run_make (P := Try.prog) (w := W) 31 22 i0 (.slice none 0 0) Try.underlying31 hi hz.1 .i64 .i64 0 n (by omega) hn0 (by rw [hz.2.2]; omega) (by omega)
        rw [hz.2.1] at this
        simpa [Value.cells] using this
      refine (callsIn_wide (n := 0)).1 (callsIn_of_wp_marks Try.func22 rfl trivial (wpIn_wide.2 ?_) rfl)
      simp only [Try.ntmps22, List.size_toArray, List.length_cons, List.length_nil, Nat.reduceAdd, Nat.reduceSub, Array.replicate_succ, Array.replicate_zero, List.push_toArray, List.append_toArray, List.nil_append, List.cons_append]
      go_wp2_with (first
        | (go_at_call 30; refine (space_measured.calls k A0 c0 l0 a1_0 A1_1 c1_1 l1_1 (fun _ => True) A1_2 c1_2 l1_2 (fun _ => True) A1_3 c1_3 l1_3 (fun _ => True) A1_4 c1_4 l1_4 (fun _ => True) A1_5 c1_5 l1_5 n 0 _ (Kd.C_alloc HR0.out _) HC0.out (Kd.C_alloc HR1_1.out _) HC1_1.out (V_of_ints (Kd.C_alloc HR1_2.out _) HC1_2.out) (V_of_ints (Kd.C_alloc HR1_3.out _) HC1_3.out) (V_of_ints (Kd.C_alloc HR1_4.out _) HC1_4.out) (V_of_ints (Kd.C_alloc HR1_5.out _) HC1_5.out) HM.out).mono ?_; rintro e_ w1 ⟨rfl, hb⟩; obtain ⟨hbs, hbw⟩ := one_box hb; have HBS := Aside0.mk hbs; have HBW := Aside0.mk hbw; clear hbs hbw hb; have hk0 := fun o o' => cell_two HBS.out 0 rfl o o'; have hk1 := fun o o' => cell_two HBS.out 1 rfl o o'; have hk2 := fun o o' => cell_two HBS.out 2 rfl o o'; have hk3 := fun o o' => cell_two HBS.out 3 rfl o o'; have hk4 := fun o o' => cell_two HBS.out 4 rfl o o'; have hk5 := fun o o' => cell_two HBS.out 5 rfl o o')
        | (go_at_call 31; refine (space_each A0 c0 l0 a1_0 A1_1 c1_1 l1_1 A1_2 c1_2 l1_2 A1_3 c1_3 l1_3 A1_4 c1_4 l1_4 A1_5 c1_5 l1_5 _).mono ?_; rintro e_ w2 ⟨rfl, rfl⟩))
      obtain ⟨g1, g2, g3, g4, g5, g6⟩ := four_allocs w1 (.cells (madeCells #[.slice none 0 0] n.toNat) 22) (.cells #[.slice (some ⟨w1.heap.size, 0, none⟩) 0 n.toNat] 31) (.cells #[.slice A0 l0.length c0] 22) (.cells #[.int .i64 a1_0, .slice A1_1 l1_1.length c1_1, .slice A1_2 l1_2.length c1_2, .slice A1_3 l1_3.length c1_3, .slice A1_4 l1_4.length c1_4, .slice A1_5 l1_5.length c1_5] 33)
      generalize ((((w1.alloc (.cells (madeCells #[.slice none 0 0] n.toNat) 22)).alloc (.cells #[.slice (some ⟨w1.heap.size, 0, none⟩) 0 n.toNat] 31)).alloc (.cells #[.slice A0 l0.length c0] 22)).alloc (.cells #[.int .i64 a1_0, .slice A1_1 l1_1.length c1_1, .slice A1_2 l1_2.length c1_2, .slice A1_3 l1_3.length c1_3, .slice A1_4 l1_4.length c1_4, .slice A1_5 l1_5.length c1_5] 33)) = wl at g1 g2 g3 g4 g5 g6 ⊢
      have hw1 := HBW.out.size
      have hw2 := (Array.getElem?_eq_some_iff.1 HBS.out).1
      have hbl : Below w.heap.size w wl := HBW.out.trans (g5.mono hw1)
      have hsub0 : ∀ k, k < w.heap.size → placesS wl w1 k := fun k hk => ⟨by omega, by omega, by omega⟩
      have HSEL : Aside0 (∀ W, SameOn (placesS wl w1) wl W → SelMem W (w1.heap.size + 1 + 1 + 1) (w1.heap.size + 1 + 1) A0 c0 l0 a1_0 A1_1 c1_1 l1_1 A1_2 c1_2 l1_2 A1_3 c1_3 l1_3 A1_4 c1_4 l1_4 A1_5 c1_5 l1_5) := ⟨fun W hW =>
        selMem_of A0 c0 l0 a1_0 A1_1 c1_1 l1_1 A1_2 c1_2 l1_2 A1_3 c1_3 l1_3 A1_4 c1_4 l1_4 A1_5 c1_5 l1_5 w W _ _ (hbl.trans (hW.below hsub0 hbl.size)) ((hW.same _ ⟨by omega, by omega, by omega⟩ (by omega)).trans g3) ((hW.same _ ⟨by omega, by omega, by omega⟩ (by omega)).trans g4) HR0.out HC0.out HR1_1.out HC1_1.out HR1_2.out HC1_2.out HR1_3.out HC1_3.out HR1_4.out HC1_4.out HR1_5.out HC1_5.out⟩
      have HROW : Aside0 (Kd.S (Kd.slice 3 (Kd.int .i64)) 22 wl w.heap.size (fun k => ¬ placesS wl w1 k ∧ k ≠ w1.heap.size + 1) (.slice (some ⟨w1.heap.size, 0, none⟩) 0 n.toNat) []) := ⟨⟨fun _ => 0, (fun k hk => by
        have : w1.heap.size = k := by simpa [Value.ownBlock] using hk
        subst this
        exact ⟨fun h => h.2.2 rfl, by omega⟩), [], ⟨rfl, .inr ⟨_, _, _, rfl, by omega, g1, Nat.zero_le _, by unfold maxLen; omega, by simp [size_madeCells, Kd.tag, Kd.slice], rfl⟩⟩, Reps.none _ _⟩⟩
      have HLE : Aside0 (Below w.heap.size w wl) := ⟨hbl⟩
      have hwlz : w1.heap.size + 4 = wl.heap.size := g6.symm
      clear hk0 hk1 hk2 hk3 hk4 hk5 g1 g3 g4 g5 g6 hbl hsub0 hmk HBS HBW
      refine wp_rangeMem (gf := 42) rfl (fun _ _ => rfl) (sel_hands A0 c0 l0 a1_0 A1_1 c1_1 l1_1 A1_2 c1_2 l1_2 A1_3 c1_3 l1_3 A1_4 c1_4 l1_4 A1_5 c1_5 l1_5 _ _ _ wl HOK.out HSEL.out (fun k h => h.1)) (fun k h => h.1)
        (TupInv w wl w1) (tupInv_bears w wl w1) (tupInv_put w wl w1) RdI_put ⟨_, g2, fun h => h.2.1 rfl, HROW.out, SameOn.refl _ _⟩
        (fun v => { tmps := #[.slice A0 l0.length c0, .agg #[.int .i64 a1_0, .slice A1_1 l1_1.length c1_1, .slice A1_2 l1_2.length c1_2, .slice A1_3 l1_3.length c1_3, .slice A1_4 l1_4.length c1_4, .slice A1_5 l1_5.length c1_5], undef, .pointer (some ⟨w.heap.size, 0, none⟩), .slice none 0 0, .int .i64 0, .int .i64 n, .int .i64 0, .pointer (some ⟨w1.heap.size + 1, 0, none⟩), v, .tuple #[.int .i64 n, .int .i64 0], .slice A0 l0.length c0, .agg #[.int .i64 a1_0, .slice A1_1 l1_1.length c1_1, .slice A1_2 l1_2.length c1_2, .slice A1_3 l1_3.length c1_3, .slice A1_4 l1_4.length c1_4, .slice A1_5 l1_5.length c1_5], .tuple #[.int .i64 n, .int .i64 0], .int .i64 n, .int .i64 0, .int .i64 0, .bool false, .bool false, .int .i64 n, .bool false, .bool false, undef, .int .i64 n, .slice (some ⟨w1.heap.size, 0, none⟩) 0 n.toNat, .slice A0 l0.length c0, .agg #[.int .i64 a1_0, .slice A1_1 l1_1.length c1_1, .slice A1_2 l1_2.length c1_2, .slice A1_3 l1_3.length c1_3, .slice A1_4 l1_4.length c1_4, .slice A1_5 l1_5.length c1_5], .func (.func 42) #[] #[.pointer (some ⟨w1.heap.size + 1 + 1 + 1, 0, none⟩), .pointer (some ⟨w1.heap.size + 1 + 1, 0, none⟩)], v, undef, undef, undef, undef, undef, undef], defers := [] }) ?assign ?body ?done
      case assign =>
        intro l v W m K hK
        gi_wp2
        exact hK
      case body =>
        rintro l m S pre x v W ⟨u, hbox, hSb, hrow, hsame⟩ hsubS hSlt hpre ⟨A, c, rfl, hcx, hC⟩
        have hmem := hpre.subset (List.mem_append_right pre (List.mem_singleton.2 rfl))
        have hlen : x.length ≤ l0.length := HSUB.out _ hmem
        have hpl : pre.length + 1 ≤ 4096 := by
          have := hpre.length_le
          rw [List.length_append] at this
          have h2 := HLEN.out
          simp at this
          omega
        clear hmem
        have HC := Aside0.mk hC
        have HBX := Aside0.mk hbox
        have HROWI := Aside0.mk hrow
        have HSAME := Aside0.mk hsame
        have hmo : Try.prog.follows .mixedOrders = true := by kernel_rfl
        have hbw : Below W.heap.size W W.drew := below_drew (Below.refl _ _)
        have hbd : W.drew.heap[w1.heap.size + 1]? = some (.cells #[u] 31 (0, 0)) := (hbw.block _ (Array.getElem?_eq_some_iff.1 hbox).1).trans hbox
        have hcb : W.drew.cell? ⟨w1.heap.size + 1, 0, none⟩ = some u := Boxed.cell (t := 31) hbd
        have hclone : slices_Clone_int_int.f x = some x := by unfold slices_Clone_int_int.f; rw [if_pos (by omega)]
        have HCLONE := Aside0.mk hclone
        have HBD := Aside0.mk hbd
        have HBW := Aside0.mk hbw
        clear hC hbox hrow hsame hclone hbd hbw
        gi_wp2
        refine wpIn_region_any hmo ?_
        change wpAnyIn _ _ _ _ _ _ _ _ _ (World.drew _)
        refine wpAnyIn_ready (rs := [0, 1]) (by kernel_rfl) (by simp) (AllReadyIn.cons rfl (fun K hK => ?_) (AllReadyIn.cons rfl (fun K hK => ?_) AllReadyIn.nil))
        · go_simp
          refine hK _ _ ?_
          clear hK K
          refine wpAnyIn_ready (rs := [1]) (by kernel_rfl) (by simp) (AllReadyIn.cons rfl (fun K hK => ?_) AllReadyIn.nil)
          go_simp
          refine hK _ _ ?_
          clear hK K
          refine wpAnyIn_ready (rs := [2]) (by kernel_rfl) (by simp) (AllReadyIn.cons rfl (fun K hK => ?_) AllReadyIn.nil)
          go_simp
          refine ⟨trivial, fun h => by simp [Fence.wide] at h, ?_⟩
          refine CallsIn.inRound l ((callsIn_wide.2 (slices_Clone_int_int.calls A c x x _ (Kd.C_drew HC.out) hcx HCLONE.out)).mono ?_)
          rintro e_ w' ⟨v31, rfl, hr31, hb⟩
          obtain ⟨A31, c31, rfl⟩ := Kd.R_slice hr31
          have hbx' := (hb.block _ (Array.getElem?_eq_some_iff.1 HBD.out).1).trans HBD.out
          have hcb' : w'.cell? ⟨w1.heap.size + 1, 0, none⟩ = some u := Boxed.cell (t := 31) hbx'
          have hcb2 : ∀ o, (w'.alloc o).cell? ⟨w1.heap.size + 1, 0, none⟩ = some u := fun o => pw_cell_below (below_alloc (Below.refl _ _) o) hcb'
          have HR31 := Aside0.mk hr31
          have HB31 := Aside0.mk hb
          have HBX' := Aside0.mk hbx'
          clear hr31 hb hbx'
          show K _ _
          refine hK _ _ ?_
          clear hK K
          refine wpAnyIn_ready (rs := [3]) (by kernel_rfl) (by simp) (AllReadyIn.cons rfl (fun K hK => ?_) AllReadyIn.nil)
          go_simp
          refine hK _ _ ?_
          clear hK K
          obtain ⟨i0, hi, hz⟩ := Option.map_eq_some_iff.1 (show (Try.prog.info? 22).map (fun i => (i.zero, i.size, i.bytes)) = some (some (.slice none 0 0), 1, 24) by kernel_rfl)
          simp only [Prod.mk.injEq] at hz
          obtain ⟨inner, hown, hfin⟩ := tup_ready w wl w1 W w' S pre x u A31 c31 (.cells #[.slice A31 x.length c31] 22) HBX.out hSb HROWI.out HSAME.out hSlt hsubS (Nat.le_trans HLE.out.size HSAME.out.size) HR31.out HB31.out
          refine wpAnyIn_ready (rs := [4]) (by kernel_rfl) (by simp) (AllReadyIn.cons rfl (fun K hK => ?_) AllReadyIn.nil)
          refine append_stepIn (w'.alloc (.cells #[.slice A31 x.length c31] 22)) rfl (.tmp 29) (.tmp 32) 31 rfl w.heap.size 22 i0 (.slice none 0 0) 1 24 Try.underlying31 hi hz.1 hz.2.1 hz.2.2 rfl (by decide) u pre.length inner rfl hown ⟨w'.heap.size, 0, none⟩ 1 1 [.slice A31 x.length c31] rfl rfl (cell_one_new _ _ _) (by simp [Value.oneCell']) (by unfold maxLen; omega) (by omega) (Nat.le_trans (Nat.le_trans HLE.out.size HSAME.out.size) (below_alloc ((below_drew (Below.refl _ _)).trans HB31.out) _).size) ?_
          intro v2 w2 hown2 hg2 ha2
          obtain ⟨hbx2, hfin2⟩ := hfin v2 w2 hown2 hg2 ha2
          have hcb4 : w2.cell? ⟨w1.heap.size + 1, 0, none⟩ = some u := Boxed.cell (t := 31) hbx2
          have hfb4 : w2.frozen? ⟨w1.heap.size + 1, 0, none⟩ = false := Boxed.frozen (t := 31) hbx2
          obtain ⟨g2, cap2, rfl⟩ := ownsRow_succ hown2
          have HFIN := Aside0.mk hfin2
          clear hfin hfin2 hown hown2 hg2 ha2 hbx2
          refine hK _ _ ?_
          clear hK K
          refine wpAnyIn_ready (rs := [5]) (by kernel_rfl) (by simp) (AllReadyIn.cons rfl (fun K hK => ?_) AllReadyIn.nil)
          go_simp
          refine hK _ _ ?_
          clear hK K
          refine wpAnyIn_done (by kernel_rfl) ?_ _
          exact HFIN.out
        · go_simp
          refine hK _ _ ?_
          clear hK K
          refine wpAnyIn_ready (rs := [0, 2]) (by kernel_rfl) (by simp) (AllReadyIn.cons rfl (fun K hK => ?_) (AllReadyIn.cons rfl (fun K hK => ?_) AllReadyIn.nil))
          · go_simp
            refine hK _ _ ?_
            clear hK K
            refine wpAnyIn_ready (rs := [2]) (by kernel_rfl) (by simp) (AllReadyIn.cons rfl (fun K hK => ?_) AllReadyIn.nil)
            go_simp
            refine ⟨trivial, fun h => by simp [Fence.wide] at h, ?_⟩
            refine CallsIn.inRound l ((callsIn_wide.2 (slices_Clone_int_int.calls A c x x _ (Kd.C_drew HC.out) hcx HCLONE.out)).mono ?_)
            rintro e_ w' ⟨v31, rfl, hr31, hb⟩
            obtain ⟨A31, c31, rfl⟩ := Kd.R_slice hr31
            have hbx' := (hb.block _ (Array.getElem?_eq_some_iff.1 HBD.out).1).trans HBD.out
            have hcb' : w'.cell? ⟨w1.heap.size + 1, 0, none⟩ = some u := Boxed.cell (t := 31) hbx'
            have hcb2 : ∀ o, (w'.alloc o).cell? ⟨w1.heap.size + 1, 0, none⟩ = some u := fun o => pw_cell_below (below_alloc (Below.refl _ _) o) hcb'
            have HR31 := Aside0.mk hr31
            have HB31 := Aside0.mk hb
            have HBX' := Aside0.mk hbx'
            clear hr31 hb hbx'
            show K _ _
            refine hK _ _ ?_
            clear hK K
            refine wpAnyIn_ready (rs := [3]) (by kernel_rfl) (by simp) (AllReadyIn.cons rfl (fun K hK => ?_) AllReadyIn.nil)
            go_simp
            refine hK _ _ ?_
            clear hK K
            obtain ⟨i0, hi, hz⟩ := Option.map_eq_some_iff.1 (show (Try.prog.info? 22).map (fun i => (i.zero, i.size, i.bytes)) = some (some (.slice none 0 0), 1, 24) by kernel_rfl)
            simp only [Prod.mk.injEq] at hz
            obtain ⟨inner, hown, hfin⟩ := tup_ready w wl w1 W w' S pre x u A31 c31 (.cells #[.slice A31 x.length c31] 22) HBX.out hSb HROWI.out HSAME.out hSlt hsubS (Nat.le_trans HLE.out.size HSAME.out.size) HR31.out HB31.out
            refine wpAnyIn_ready (rs := [4]) (by kernel_rfl) (by simp) (AllReadyIn.cons rfl (fun K hK => ?_) AllReadyIn.nil)
            refine append_stepIn (w'.alloc (.cells #[.slice A31 x.length c31] 22)) rfl (.tmp 29) (.tmp 32) 31 rfl w.heap.size 22 i0 (.slice none 0 0) 1 24 Try.underlying31 hi hz.1 hz.2.1 hz.2.2 rfl (by decide) u pre.length inner rfl hown ⟨w'.heap.size, 0, none⟩ 1 1 [.slice A31 x.length c31] rfl rfl (cell_one_new _ _ _) (by simp [Value.oneCell']) (by unfold maxLen; omega) (by omega) (Nat.le_trans (Nat.le_trans HLE.out.size HSAME.out.size) (below_alloc ((below_drew (Below.refl _ _)).trans HB31.out) _).size) ?_
            intro v2 w2 hown2 hg2 ha2
            obtain ⟨hbx2, hfin2⟩ := hfin v2 w2 hown2 hg2 ha2
            have hcb4 : w2.cell? ⟨w1.heap.size + 1, 0, none⟩ = some u := Boxed.cell (t := 31) hbx2
            have hfb4 : w2.frozen? ⟨w1.heap.size + 1, 0, none⟩ = false := Boxed.frozen (t := 31) hbx2
            obtain ⟨g2, cap2, rfl⟩ := ownsRow_succ hown2
            have HFIN := Aside0.mk hfin2
            clear hfin hfin2 hown hown2 hg2 ha2 hbx2
            refine hK _ _ ?_
            clear hK K
            refine wpAnyIn_ready (rs := [5]) (by kernel_rfl) (by simp) (AllReadyIn.cons rfl (fun K hK => ?_) AllReadyIn.nil)
            go_simp
            refine hK _ _ ?_
            clear hK K
            refine wpAnyIn_done (by kernel_rfl) ?_ _
            exact HFIN.out
          · go_simp
            refine ⟨trivial, fun h => by simp [Fence.wide] at h, ?_⟩
            refine CallsIn.inRound l ((callsIn_wide.2 (slices_Clone_int_int.calls A c x x _ (Kd.C_drew HC.out) hcx HCLONE.out)).mono ?_)
            rintro e_ w' ⟨v31, rfl, hr31, hb⟩
            obtain ⟨A31, c31, rfl⟩ := Kd.R_slice hr31
            have hbx' := (hb.block _ (Array.getElem?_eq_some_iff.1 HBD.out).1).trans HBD.out
            have hcb' : w'.cell? ⟨w1.heap.size + 1, 0, none⟩ = some u := Boxed.cell (t := 31) hbx'
            have hcb2 : ∀ o, (w'.alloc o).cell? ⟨w1.heap.size + 1, 0, none⟩ = some u := fun o => pw_cell_below (below_alloc (Below.refl _ _) o) hcb'
            have HR31 := Aside0.mk hr31
            have HB31 := Aside0.mk hb
            have HBX' := Aside0.mk hbx'
            clear hr31 hb hbx'
            show K _ _
            refine hK _ _ ?_
            clear hK K
            refine wpAnyIn_ready (rs := [0, 3]) (by kernel_rfl) (by simp) (AllReadyIn.cons rfl (fun K hK => ?_) (AllReadyIn.cons rfl (fun K hK => ?_) AllReadyIn.nil))
            · go_simp
              refine hK _ _ ?_
              clear hK K
              refine wpAnyIn_ready (rs := [3]) (by kernel_rfl) (by simp) (AllReadyIn.cons rfl (fun K hK => ?_) AllReadyIn.nil)
              go_simp
              refine hK _ _ ?_
              clear hK K
              obtain ⟨i0, hi, hz⟩ := Option.map_eq_some_iff.1 (show (Try.prog.info? 22).map (fun i => (i.zero, i.size, i.bytes)) = some (some (.slice none 0 0), 1, 24) by kernel_rfl)
              simp only [Prod.mk.injEq] at hz
              obtain ⟨inner, hown, hfin⟩ := tup_ready w wl w1 W w' S pre x u A31 c31 (.cells #[.slice A31 x.length c31] 22) HBX.out hSb HROWI.out HSAME.out hSlt hsubS (Nat.le_trans HLE.out.size HSAME.out.size) HR31.out HB31.out
              refine wpAnyIn_ready (rs := [4]) (by kernel_rfl) (by simp) (AllReadyIn.cons rfl (fun K hK => ?_) AllReadyIn.nil)
              refine append_stepIn (w'.alloc (.cells #[.slice A31 x.length c31] 22)) rfl (.tmp 29) (.tmp 32) 31 rfl w.heap.size 22 i0 (.slice none 0 0) 1 24 Try.underlying31 hi hz.1 hz.2.1 hz.2.2 rfl (by decide) u pre.length inner rfl hown ⟨w'.heap.size, 0, none⟩ 1 1 [.slice A31 x.length c31] rfl rfl (cell_one_new _ _ _) (by simp [Value.oneCell']) (by unfold maxLen; omega) (by omega) (Nat.le_trans (Nat.le_trans HLE.out.size HSAME.out.size) (below_alloc ((below_drew (Below.refl _ _)).trans HB31.out) _).size) ?_
              intro v2 w2 hown2 hg2 ha2
              obtain ⟨hbx2, hfin2⟩ := hfin v2 w2 hown2 hg2 ha2
              have hcb4 : w2.cell? ⟨w1.heap.size + 1, 0, none⟩ = some u := Boxed.cell (t := 31) hbx2
              have hfb4 : w2.frozen? ⟨w1.heap.size + 1, 0, none⟩ = false := Boxed.frozen (t := 31) hbx2
              obtain ⟨g2, cap2, rfl⟩ := ownsRow_succ hown2
              have HFIN := Aside0.mk hfin2
              clear hfin hfin2 hown hown2 hg2 ha2 hbx2
              refine hK _ _ ?_
              clear hK K
              refine wpAnyIn_ready (rs := [5]) (by kernel_rfl) (by simp) (AllReadyIn.cons rfl (fun K hK => ?_) AllReadyIn.nil)
              go_simp
              refine hK _ _ ?_
              clear hK K
              refine wpAnyIn_done (by kernel_rfl) ?_ _
              exact HFIN.out
            · go_simp
              refine hK _ _ ?_
              clear hK K
              refine wpAnyIn_ready (rs := [0]) (by kernel_rfl) (by simp) (AllReadyIn.cons rfl (fun K hK => ?_) AllReadyIn.nil)
              go_simp
              refine hK _ _ ?_
              clear hK K
              obtain ⟨i0, hi, hz⟩ := Option.map_eq_some_iff.1 (show (Try.prog.info? 22).map (fun i => (i.zero, i.size, i.bytes)) = some (some (.slice none 0 0), 1, 24) by kernel_rfl)
              simp only [Prod.mk.injEq] at hz
              obtain ⟨inner, hown, hfin⟩ := tup_ready w wl w1 W w' S pre x u A31 c31 (.cells #[.slice A31 x.length c31] 22) HBX.out hSb HROWI.out HSAME.out hSlt hsubS (Nat.le_trans HLE.out.size HSAME.out.size) HR31.out HB31.out
              refine wpAnyIn_ready (rs := [4]) (by kernel_rfl) (by simp) (AllReadyIn.cons rfl (fun K hK => ?_) AllReadyIn.nil)
              refine append_stepIn (w'.alloc (.cells #[.slice A31 x.length c31] 22)) rfl (.tmp 29) (.tmp 32) 31 rfl w.heap.size 22 i0 (.slice none 0 0) 1 24 Try.underlying31 hi hz.1 hz.2.1 hz.2.2 rfl (by decide) u pre.length inner rfl hown ⟨w'.heap.size, 0, none⟩ 1 1 [.slice A31 x.length c31] rfl rfl (cell_one_new _ _ _) (by simp [Value.oneCell']) (by unfold maxLen; omega) (by omega) (Nat.le_trans (Nat.le_trans HLE.out.size HSAME.out.size) (below_alloc ((below_drew (Below.refl _ _)).trans HB31.out) _).size) ?_
              intro v2 w2 hown2 hg2 ha2
              obtain ⟨hbx2, hfin2⟩ := hfin v2 w2 hown2 hg2 ha2
              have hcb4 : w2.cell? ⟨w1.heap.size + 1, 0, none⟩ = some u := Boxed.cell (t := 31) hbx2
              have hfb4 : w2.frozen? ⟨w1.heap.size + 1, 0, none⟩ = false := Boxed.frozen (t := 31) hbx2
              obtain ⟨g2, cap2, rfl⟩ := ownsRow_succ hown2
              have HFIN := Aside0.mk hfin2
              clear hfin hfin2 hown hown2 hg2 ha2 hbx2
              refine hK _ _ ?_
              clear hK K
              refine wpAnyIn_ready (rs := [5]) (by kernel_rfl) (by simp) (AllReadyIn.cons rfl (fun K hK => ?_) AllReadyIn.nil)
              go_simp
              refine hK _ _ ?_
              clear hK K
              refine wpAnyIn_done (by kernel_rfl) ?_ _
              exact HFIN.out
      case done =>
        rintro D S W hinv hD hK
        have HINV := Aside0.mk (tupInv_put w wl w1 _ _ _ D _ (.deferred none) hinv hK rfl hD)
        have HK := Aside0.mk hK
        obtain ⟨u, hbox, hSb, hrow, hsame⟩ := hinv
        have hcb : W.cell? ⟨w1.heap.size + 1, 0, none⟩ = some u := by simp [World.cell?, hbox]
        have HBX := Aside0.mk hbox
        clear hrow hsame hbox hK
        go_wp2
        refine ⟨by simp, .inl ⟨_, _, rfl, run_takeDeferred HK.out, ?_⟩⟩
        obtain ⟨u2, hbox2, hSb2, hrow2, hsame2⟩ := HINV.out
        have hu : u2 = u := by
          have hlt := (Array.getElem?_eq_some_iff.1 HBX.out).1
          have h1 : (W.putObj D (.deferred none)).heap[w1.heap.size + 1]? = W.heap[w1.heap.size + 1]? := World.putObj_heap_other (by omega)
          rw [h1, HBX.out] at hbox2
          simpa using hbox2.symm
        subst hu
        exact ⟨_, results_tmp2 rfl _ _ _, _, rfl, Kd.S_mono hrow2 (fun _ _ => trivial), HLE.out.trans (hsame2.below (fun k hk => ⟨by omega, by omega, by omega⟩) HLE.out.size)⟩
  · rw [if_neg he] at h
    cases h
    have he1 : (r2 == 0) = false := by simpa using he
    have he2 : (r2 != 0) = true := by simpa using he
    go_enter Try.func22, Try.ntmps22
    go_wp2_with (go_at_call 30; refine (space_measured.calls k A0 c0 l0 a1_0 A1_1 c1_1 l1_1 (fun _ => True) A1_2 c1_2 l1_2 (fun _ => True) A1_3 c1_3 l1_3 (fun _ => True) A1_4 c1_4 l1_4 (fun _ => True) A1_5 c1_5 l1_5 n r2 _ (Kd.C_alloc HR0.out _) HC0.out (Kd.C_alloc HR1_1.out _) HC1_1.out (V_of_ints (Kd.C_alloc HR1_2.out _) HC1_2.out) (V_of_ints (Kd.C_alloc HR1_3.out _) HC1_3.out) (V_of_ints (Kd.C_alloc HR1_4.out _) HC1_4.out) (V_of_ints (Kd.C_alloc HR1_5.out _) HC1_5.out) HM.out).mono ?_; rintro e_ w1 ⟨rfl, hb⟩)
    go_ret2
    exact ⟨_, rfl, Kd.S_nil _ _ _ _ _, (one_box hb).2⟩
end
end Go.Proofs.Ytjbjofmcmjojlaa.Wk
end
section
namespace Go.Proofs.Ytjbjofmcmjojlaa.Wk
open Go.RowKit Go.Proofs.YtjbjofmcmjojlaaW.PrintWords Go.Proofs.YtjbjofmcmjojlaaW.PrintLast Go.Proofs.YtjbjofmcmjojlaaW.PrintMore
attribute [local go_sem] max2_int min2_int max_two min_two max_three min_three max_four min_four
set_option linter.unusedVariables false
set_option linter.unusedSimpArgs false
def slabvaultlaw12_lists.l0 : Nat → List (List Int) → List (List Int) → Int → Option (Bool)
 | 0, _, _, _ => none
 | k + 1, x0, x1, x5 => if x5 < (x0.length : Int) then (if 0 ≤ x5 then (if x5 < (x1.length : Int) then ((slabvaultlaw12_ints.f k (rd_L1 x0 x5) (rd_L1 x1 x5)).bind fun t339 => (if t339 = true then (slabvaultlaw12_lists.l0 k x0 x1 (wrap64 (x5 + 1))) else (none))) else (none)) else (none)) else (some true)
def slabvaultlaw12_lists.f (k : Nat) (l0 : List (List Int)) (l1 : List (List Int)) : Option (Bool) := if (l0.length : Int) = (l1.length : Int) then (slabvaultlaw12_lists.l0 k l0 l1 0) else (none)
set_option maxHeartbeats 8000000 in
set_option maxRecDepth 100000 in
theorem slabvaultlaw12_lists.calls (k : Nat) (A0 : Option Addr) (c0 : Nat) (l0 : List (List Int)) (A1 : Option Addr) (c1 : Nat) (l1 : List (List Int)) (r : Bool) (w : World) (hr0 : Kd.C (Kd.slice 3 (Kd.int .i64)) w A0 l0.length l0) (hc0 : l0.length ≤ c0) (hr1 : Kd.C (Kd.slice 3 (Kd.int .i64)) w A1 l1.length l1) (hc1 : l1.length ≤ c1) (h : slabvaultlaw12_lists.f k l0 l1 = some r) :
 Calls Try.prog 24 #[.slice A0 l0.length c0, .slice A1 l1.length c1] w fun e w' => e = .returned (.bool r) ∧ Drawn0 w w' := by
 have HR0 := Aside0.mk hr0
 have HC0 := Aside0.mk hc0
 clear hr0 hc0
 have HR1 := Aside0.mk hr1
 have HC1 := Aside0.mk hc1
 clear hr1 hc1
 have H : (if (l0.length : Int) = (l1.length : Int) then (slabvaultlaw12_lists.l0 k l0 l1 0) else (none)) = some r := h
 clear h
 by_cases c3 : (l0.length : Int) = (l1.length : Int)
 ·rw [if_pos c3] at H
  have c3b0 : ((l0.length : Int) == (l1.length : Int)) = true := beq_iff_eq.mpr c3
  have c3b1 : ((l0.length : Int) != (l1.length : Int)) = false := bne_eq_false_iff_eq.mpr c3
  have c3b2 : (l0.length == l1.length) = true := by (simp at c3 ⊢; omega)
  clear c3
  have H' := Aside0.mk H
  clear H
  go_enter Try.func24, Try.ntmps24
  go_wp2
  repeat (go_quiet (fail); try go_wp2)
  go_loopg [5] k (fun kq v5 w' => ∃ (x5_1 : Int), v5 = .int .i64 x5_1 ∧ Aside0 (slabvaultlaw12_lists.l0 kq l0 l1 x5_1 = some r) ∧ Aside0 (kq ≤ k) ∧ Drawn0 w w')
  case atStart => exact ⟨(0), (by rfl), H', ⟨Nat.le_refl _⟩, by repeat (exact Drawn0.refl _)⟩
  case round =>
   clear H' c3b0 c3b1 c3b2
   obtain ⟨x5_1, rfl, HA, HK1, ⟨m1, rfl⟩⟩ := hrel
   cases gk with
   | zero => exact absurd HA.out (by simp [slabvaultlaw12_lists.l0])
   | succ k1 =>
    have H := HA.out
    clear HA
    simp only [slabvaultlaw12_lists.l0] at H
    by_cases c4 : x5_1 < (l0.length : Int)
    ·rw [if_pos c4] at H
     have c4b0 : decide (x5_1 < (l0.length : Int)) = true := decide_eq_true c4
     clear c4
     by_cases c5 : 0 ≤ x5_1
     case neg => rw [if_neg c5] at H; exact absurd H (by simp)
     rw [if_pos c5] at H
     have c5b0 : decide (0 ≤ x5_1) = true := decide_eq_true c5
     clear c5
     by_cases c6 : x5_1 < (l1.length : Int)
     case neg => rw [if_neg c6] at H; exact absurd H (by simp)
     rw [if_pos c6] at H
     have c6b0 : decide (x5_1 < (l1.length : Int)) = true := decide_eq_true c6
     clear c6
     replace H := Option.bind_eq_some_iff.mp H
     obtain ⟨t339, A70, H⟩ := H
     replace H : (if t339 = true then (slabvaultlaw12_lists.l0 k1 l0 l1 (wrap64 (x5_1 + 1))) else (none)) = some r := H
     have A7 := Aside0.mk A70
     clear A70
     by_cases c8 : t339 = true
     ·subst c8
      have H1 : (slabvaultlaw12_lists.l0 k1 l0 l1 (wrap64 (x5_1 + 1))) = some r := by rw [if_pos rfl] at H; exact H
      clear H
      have H := H1
      clear H1
      have H' := Aside0.mk H
      clear H
      have p337 : 0 ≤ (x5_1 : Int) := of_decide_eq_true (by (with_reducible assumption))
      have q337 : x5_1 < (l0.length : Int) := of_decide_eq_true (by (with_reducible assumption))
      obtain ⟨ad337, A337_0, c337_0, e337, hx337_0, hl337_0, hi337_0⟩ := at_L1 HR0.out x5_1 p337 q337
      cases e337
      have HR337_0 := Aside0.mk hi337_0
      have HC337_0 := Aside0.mk hl337_0
      clear hi337_0 hl337_0
      replace p337 := eq_true p337
      replace q337 := eq_true q337
      have p338 : 0 ≤ (x5_1 : Int) := of_decide_eq_true (by (with_reducible assumption))
      have q338 : x5_1 < (l1.length : Int) := of_decide_eq_true (by (with_reducible assumption))
      obtain ⟨ad338, A338_0, c338_0, e338, hx338_0, hl338_0, hi338_0⟩ := at_L1 HR1.out x5_1 p338 q338
      cases e338
      have HR338_0 := Aside0.mk hi338_0
      have HC338_0 := Aside0.mk hl338_0
      clear hi338_0 hl338_0
      replace p338 := eq_true p338
      replace q338 := eq_true q338
      go_wp2_with (first | (go_at_call 17; (with_reducible refine (slabvaultlaw12_ints.calls k1 _ _ (rd_L1 l0 x5_1) _ _ (rd_L1 l1 x5_1) true _ ?side1 ?side2 ?side3 ?side4 A7.out).mono ?_); (case side1 => repeat (first | exact HR337_0.out | (with_reducible refine Kd.C_alloc ?_ _) | (with_reducible refine Kd.C_drewN ?_ _) | (with_reducible refine Kd.C_drew ?_))); (case side2 => exact HC337_0.out); (case side3 => repeat (first | exact HR338_0.out | (with_reducible refine Kd.C_alloc ?_ _) | (with_reducible refine Kd.C_drewN ?_ _) | (with_reducible refine Kd.C_drew ?_))); (case side4 => exact HC338_0.out); rintro e w' ⟨rfl, ⟨nd, rfl⟩⟩; (try first | exact ⟨rfl, _, World.drewN_drewN _ _ _⟩ | exact ⟨rfl, _, Eq.trans (World.drewN_drewN _ _ _) (congrArg (World.drewN _) (Nat.add_assoc _ _ _))⟩)))
      repeat (go_quiet ((go_at_call 17; (with_reducible refine (slabvaultlaw12_ints.calls k1 _ _ (rd_L1 l0 x5_1) _ _ (rd_L1 l1 x5_1) true _ ?side1 ?side2 ?side3 ?side4 A7.out).mono ?_); (case side1 => repeat (exact HR337_0.out)); (case side2 => exact HC337_0.out); (case side3 => repeat (exact HR338_0.out)); (case side4 => exact HC338_0.out); rintro e w' ⟨rfl, ⟨nd, rfl⟩⟩; (exact ⟨rfl, _, Eq.trans (World.drewN_drewN _ _ _) (congrArg (World.drewN _) (Nat.add_assoc _ _ _))⟩))); go_wp2_with (first | (go_at_call 17; (with_reducible refine (slabvaultlaw12_ints.calls k1 _ _ (rd_L1 l0 x5_1) _ _ (rd_L1 l1 x5_1) true _ ?side1 ?side2 ?side3 ?side4 A7.out).mono ?_); (case side1 => repeat (first | exact HR337_0.out | (with_reducible refine Kd.C_alloc ?_ _) | (with_reducible refine Kd.C_drewN ?_ _) | (with_reducible refine Kd.C_drew ?_))); (case side2 => exact HC337_0.out); (case side3 => repeat (first | exact HR338_0.out | (with_reducible refine Kd.C_alloc ?_ _) | (with_reducible refine Kd.C_drewN ?_ _) | (with_reducible refine Kd.C_drew ?_))); (case side4 => exact HC338_0.out); rintro e w' ⟨rfl, ⟨nd, rfl⟩⟩; (try first | exact ⟨rfl, _, World.drewN_drewN _ _ _⟩ | exact ⟨rfl, _, Eq.trans (World.drewN_drewN _ _ _) (congrArg (World.drewN _) (Nat.add_assoc _ _ _))⟩))))
      go_roundg k1
      case measure => have := HK1.out; omega
      case rel => exact ⟨(wrap64 (x5_1 + 1)), (by rfl), H', ⟨by have := HK1.out; omega⟩, by repeat (first | exact Drawn0.refl _ | apply Drawn0.step)⟩
     replace c8 := Bool.eq_false_iff.mpr c8
     subst c8
     have H1 : (none) = some r := by rw [if_neg (show ¬ (false = true) by decide)] at H; exact H
     clear H
     have H := H1
     clear H1
     exact absurd H (by simp)
    rw [if_neg c4] at H
    have c4b0 : decide (x5_1 < (l0.length : Int)) = false := decide_eq_false c4
    clear c4
    obtain rfl := Option.some.inj H
    go_wp2
    repeat (go_quiet (fail); try go_wp2)
    go_ret
    exact ⟨by rfl, by repeat (first | exact Drawn0.refl _ | apply Drawn0.step)⟩
 ·rw [if_neg c3] at H
  exact absurd H (by simp)
end Go.Proofs.Ytjbjofmcmjojlaa.Wk
end
section
namespace Go.Proofs.Ytjbjofmcmjojlaa.Wk
open Go.RowKit Go.Proofs.YtjbjofmcmjojlaaW.PrintWords Go.Proofs.YtjbjofmcmjojlaaW.PrintLast Go.Proofs.YtjbjofmcmjojlaaW.PrintMore
attribute [local go_sem] max2_int min2_int max_two min_two max_three min_three max_four min_four
set_option linter.unusedVariables false
set_option linter.unusedSimpArgs false
def slabvaultlaw12_alike.f (k : Nat) (a0_0 : Int) (l0_1 : List (List Int)) (l0_2 : List Int) (l0_3 : List Int) (l0_4 : List Int) (l0_5 : List Int) (a1_0 : Int) (l1_1 : List (List Int)) (l1_2 : List Int) (l1_3 : List Int) (l1_4 : List Int) (l1_5 : List Int) : Option (Bool) := if a0_0 = a1_0 then ((slabvaultlaw12_lists.f k l0_1 l1_1).bind fun t342 => (if t342 = true then ((slabvaultlaw12_ints.f k l0_2 l1_2).bind fun t343 => (if t343 = true then ((slabvaultlaw12_ints.f k l0_3 l1_3).bind fun t344 => (if t344 = true then ((slabvaultlaw12_ints.f k l0_4 l1_4).bind fun t345 => (if t345 = true then ((slabvaultlaw12_ints.f k l0_5 l1_5).bind fun t346 => (some t346)) else (none))) else (none))) else (none))) else (none))) else (none)
set_option maxHeartbeats 8000000 in
set_option maxRecDepth 100000 in
theorem slabvaultlaw12_alike.calls (k : Nat) (a0_0 : Int) (A0_1 : Option Addr) (c0_1 : Nat) (l0_1 : List (List Int)) (A0_2 : Option Addr) (c0_2 : Nat) (l0_2 : List Int) (A0_3 : Option Addr) (c0_3 : Nat) (l0_3 : List Int) (A0_4 : Option Addr) (c0_4 : Nat) (l0_4 : List Int) (A0_5 : Option Addr) (c0_5 : Nat) (l0_5 : List Int) (a1_0 : Int) (A1_1 : Option Addr) (c1_1 : Nat) (l1_1 : List (List Int)) (A1_2 : Option Addr) (c1_2 : Nat) (l1_2 : List Int) (A1_3 : Option Addr) (c1_3 : Nat) (l1_3 : List Int) (A1_4 : Option Addr) (c1_4 : Nat) (l1_4 : List Int) (A1_5 : Option Addr) (c1_5 : Nat) (l1_5 : List Int) (r : Bool) (w : World) (hr0_1 : Kd.C (Kd.slice 3 (Kd.int .i64)) w A0_1 l0_1.length l0_1) (hc0_1 : l0_1.length ≤ c0_1) (hr0_2 : Kd.C (Kd.int .i64) w A0_2 l0_2.length l0_2) (hc0_2 : l0_2.length ≤ c0_2) (hr0_3 : Kd.C (Kd.int .i64) w A0_3 l0_3.length l0_3) (hc0_3 : l0_3.length ≤ c0_3) (hr0_4 : Kd.C (Kd.int .i64) w A0_4 l0_4.length l0_4) (hc0_4 : l0_4.length ≤ c0_4) (hr0_5 : Kd.C (Kd.int .i64) w A0_5 l0_5.length l0_5) (hc0_5 : l0_5.length ≤ c0_5) (hr1_1 : Kd.C (Kd.slice 3 (Kd.int .i64)) w A1_1 l1_1.length l1_1) (hc1_1 : l1_1.length ≤ c1_1) (hr1_2 : Kd.C (Kd.int .i64) w A1_2 l1_2.length l1_2) (hc1_2 : l1_2.length ≤ c1_2) (hr1_3 : Kd.C (Kd.int .i64) w A1_3 l1_3.length l1_3) (hc1_3 : l1_3.length ≤ c1_3) (hr1_4 : Kd.C (Kd.int .i64) w A1_4 l1_4.length l1_4) (hc1_4 : l1_4.length ≤ c1_4) (hr1_5 : Kd.C (Kd.int .i64) w A1_5 l1_5.length l1_5) (hc1_5 : l1_5.length ≤ c1_5) (h : slabvaultlaw12_alike.f k a0_0 l0_1 l0_2 l0_3 l0_4 l0_5 a1_0 l1_1 l1_2 l1_3 l1_4 l1_5 = some r) :
    Calls Try.prog 25 #[.agg #[.int .i64 a0_0, .slice A0_1 l0_1.length c0_1, .slice A0_2 l0_2.length c0_2, .slice A0_3 l0_3.length c0_3, .slice A0_4 l0_4.length c0_4, .slice A0_5 l0_5.length c0_5], .agg #[.int .i64 a1_0, .slice A1_1 l1_1.length c1_1, .slice A1_2 l1_2.length c1_2, .slice A1_3 l1_3.length c1_3, .slice A1_4 l1_4.length c1_4, .slice A1_5 l1_5.length c1_5]] w fun e w' => e = .returned (.bool r) ∧ Below w.heap.size w w' := by
  have hu33 := Try.underlying33
  have HR0_1 := Aside0.mk hr0_1
  have HC0_1 := Aside0.mk hc0_1
  clear hr0_1 hc0_1
  have HR0_2 := Aside0.mk hr0_2
  have HC0_2 := Aside0.mk hc0_2
  clear hr0_2 hc0_2
  have HR0_3 := Aside0.mk hr0_3
  have HC0_3 := Aside0.mk hc0_3
  clear hr0_3 hc0_3
  have HR0_4 := Aside0.mk hr0_4
  have HC0_4 := Aside0.mk hc0_4
  clear hr0_4 hc0_4
  have HR0_5 := Aside0.mk hr0_5
  have HC0_5 := Aside0.mk hc0_5
  clear hr0_5 hc0_5
  have HR1_1 := Aside0.mk hr1_1
  have HC1_1 := Aside0.mk hc1_1
  clear hr1_1 hc1_1
  have HR1_2 := Aside0.mk hr1_2
  have HC1_2 := Aside0.mk hc1_2
  clear hr1_2 hc1_2
  have HR1_3 := Aside0.mk hr1_3
  have HC1_3 := Aside0.mk hc1_3
  clear hr1_3 hc1_3
  have HR1_4 := Aside0.mk hr1_4
  have HC1_4 := Aside0.mk hc1_4
  clear hr1_4 hc1_4
  have HR1_5 := Aside0.mk hr1_5
  have HC1_5 := Aside0.mk hc1_5
  clear hr1_5 hc1_5
  have HB := Aside0.mk (Below.refl w.heap.size w)
  have H : (if a0_0 = a1_0 then ((slabvaultlaw12_lists.f k l0_1 l1_1).bind fun t342 => (if t342 = true then ((slabvaultlaw12_ints.f k l0_2 l1_2).bind fun t343 => (if t343 = true then ((slabvaultlaw12_ints.f k l0_3 l1_3).bind fun t344 => (if t344 = true then ((slabvaultlaw12_ints.f k l0_4 l1_4).bind fun t345 => (if t345 = true then ((slabvaultlaw12_ints.f k l0_5 l1_5).bind fun t346 => (some t346)) else (none))) else (none))) else (none))) else (none))) else (none)) = some r := h
  clear h
  by_cases c3 : a0_0 = a1_0
  · rw [if_pos c3] at H
    have c3b0 : (a0_0 == a1_0) = true := beq_iff_eq.mpr c3
    have c3b1 : (a0_0 != a1_0) = false := bne_eq_false_iff_eq.mpr c3
    clear c3
    replace H := Option.bind_eq_some_iff.mp H
    obtain ⟨t342, A40, H⟩ := H
    replace H : (if t342 = true then ((slabvaultlaw12_ints.f k l0_2 l1_2).bind fun t343 => (if t343 = true then ((slabvaultlaw12_ints.f k l0_3 l1_3).bind fun t344 => (if t344 = true then ((slabvaultlaw12_ints.f k l0_4 l1_4).bind fun t345 => (if t345 = true then ((slabvaultlaw12_ints.f k l0_5 l1_5).bind fun t346 => (some t346)) else (none))) else (none))) else (none))) else (none)) = some r := H
    have A4 := Aside0.mk A40
    clear A40
    by_cases c5 : t342 = true
    · subst c5
      have H1 : ((slabvaultlaw12_ints.f k l0_2 l1_2).bind fun t343 => (if t343 = true then ((slabvaultlaw12_ints.f k l0_3 l1_3).bind fun t344 => (if t344 = true then ((slabvaultlaw12_ints.f k l0_4 l1_4).bind fun t345 => (if t345 = true then ((slabvaultlaw12_ints.f k l0_5 l1_5).bind fun t346 => (some t346)) else (none))) else (none))) else (none))) = some r := by rw [if_pos rfl] at H; exact H
      clear H
      have H := H1
      clear H1
      replace H := Option.bind_eq_some_iff.mp H
      obtain ⟨t343, A60, H⟩ := H
      replace H : (if t343 = true then ((slabvaultlaw12_ints.f k l0_3 l1_3).bind fun t344 => (if t344 = true then ((slabvaultlaw12_ints.f k l0_4 l1_4).bind fun t345 => (if t345 = true then ((slabvaultlaw12_ints.f k l0_5 l1_5).bind fun t346 => (some t346)) else (none))) else (none))) else (none)) = some r := H
      have A6 := Aside0.mk A60
      clear A60
      by_cases c7 : t343 = true
      · subst c7
        have H1 : ((slabvaultlaw12_ints.f k l0_3 l1_3).bind fun t344 => (if t344 = true then ((slabvaultlaw12_ints.f k l0_4 l1_4).bind fun t345 => (if t345 = true then ((slabvaultlaw12_ints.f k l0_5 l1_5).bind fun t346 => (some t346)) else (none))) else (none))) = some r := by rw [if_pos rfl] at H; exact H
        clear H
        have H := H1
        clear H1
        replace H := Option.bind_eq_some_iff.mp H
        obtain ⟨t344, A80, H⟩ := H
        replace H : (if t344 = true then ((slabvaultlaw12_ints.f k l0_4 l1_4).bind fun t345 => (if t345 = true then ((slabvaultlaw12_ints.f k l0_5 l1_5).bind fun t346 => (some t346)) else (none))) else (none)) = some r := H
        have A8 := Aside0.mk A80
        clear A80
        by_cases c9 : t344 = true
        · subst c9
          have H1 : ((slabvaultlaw12_ints.f k l0_4 l1_4).bind fun t345 => (if t345 = true then ((slabvaultlaw12_ints.f k l0_5 l1_5).bind fun t346 => (some t346)) else (none))) = some r := by rw [if_pos rfl] at H; exact H
          clear H
          have H := H1
          clear H1
          replace H := Option.bind_eq_some_iff.mp H
          obtain ⟨t345, A100, H⟩ := H
          replace H : (if t345 = true then ((slabvaultlaw12_ints.f k l0_5 l1_5).bind fun t346 => (some t346)) else (none)) = some r := H
          have A10 := Aside0.mk A100
          clear A100
          by_cases c11 : t345 = true
          · subst c11
            have H1 : ((slabvaultlaw12_ints.f k l0_5 l1_5).bind fun t346 => (some t346)) = some r := by rw [if_pos rfl] at H; exact H
            clear H
            have H := H1
            clear H1
            replace H := Option.bind_eq_some_iff.mp H
            obtain ⟨t346, A120, H⟩ := H
            replace H : (some t346) = some r := H
            have A12 := Aside0.mk A120
            clear A120
            obtain rfl := Option.some.inj H
            go_enter Try.func25, Try.ntmps25
            go_wp2_with (first | ((with_reducible refine gate_dst (N := 2) rfl ?_); refine box_event ?hg (N := 2) ?hd (cs := #[.int .i64 a0_0, .slice A0_1 l0_1.length c0_1, .slice A0_2 l0_2.length c0_2, .slice A0_3 l0_3.length c0_3, .slice A0_4 l0_4.length c0_4, .slice A0_5 l0_5.length c0_5]) (t := 33) ?hr ?_; (case hd => rfl); (case hg => rfl); (case hr => first | (go_simp; done) | (go_simp; rfl)); intro gb340 hg w13 hbox hb; have n0_ := Aside0.mk (below_step (by repeat (first | (with_reducible first | exact HB.out | apply below_alloc | apply pw_below_drewN | apply below_drew1) | exact HB.out)) hb); have n1_ := Aside0.mk (hbox); have n2_ := Aside0.mk ((by rw [hg]; exact (below_size (by repeat (first | (with_reducible first | exact HB.out | apply below_alloc | apply pw_below_drewN | apply below_drew1) | exact HB.out))) : w.heap.size ≤ gb340)); have n3_ := Aside0.mk ((by rw [hg]; exact (below_size (by repeat (first | (with_reducible first | exact HB.out | apply below_alloc | apply pw_below_drewN | apply below_drew1) | exact HB.out))) : w.heap.size ≤ gb340)); clear HB; have HB := n0_; have BK340 := n1_; have GW340 := n2_; have GE340 := n3_; clear n0_ n1_ n2_ n3_; clear hb hbox hg) | ((with_reducible refine gate_dst (N := 3) rfl ?_); refine box_event ?hg (N := 3) ?hd (cs := #[.int .i64 a1_0, .slice A1_1 l1_1.length c1_1, .slice A1_2 l1_2.length c1_2, .slice A1_3 l1_3.length c1_3, .slice A1_4 l1_4.length c1_4, .slice A1_5 l1_5.length c1_5]) (t := 33) ?hr ?_; (case hd => rfl); (case hg => rfl); (case hr => first | (go_simp; done) | (go_simp; rfl)); intro gb341 hg w14 hbox hb; have n0_ := Aside0.mk (blk_below (g := gb340) (o := .cells #[.int .i64 a0_0, .slice A0_1 l0_1.length c0_1, .slice A0_2 l0_2.length c0_2, .slice A0_3 l0_3.length c0_3, .slice A0_4 l0_4.length c0_4, .slice A0_5 l0_5.length c0_5] 33 (0, 0)) (by (with_reducible repeat (first | refine blk_drewN ?_ _ | refine blk_drew ?_ | refine blk_alloc ?_ _)); exact BK340.out) hb); have n1_ := Aside0.mk (below_step (by repeat (first | (with_reducible first | exact HB.out | apply below_alloc | apply pw_below_drewN | apply below_drew1 | refine below_set ?_ GE340.out) | exact HB.out)) hb); have n2_ := Aside0.mk (hbox); have n3_ := Aside0.mk ((by rw [hg]; exact (below_size (by repeat (first | (with_reducible first | exact HB.out | apply below_alloc | apply pw_below_drewN | apply below_drew1 | refine below_set ?_ GE340.out) | exact HB.out))) : w.heap.size ≤ gb341)); have n4_ := Aside0.mk ((by rw [hg]; exact (below_size (by repeat (first | (with_reducible first | exact HB.out | apply below_alloc | apply pw_below_drewN | apply below_drew1 | refine below_set ?_ GE340.out) | exact HB.out))) : w.heap.size ≤ gb341)); have n5_ := Aside0.mk ((by rw [hg]; exact Nat.ne_of_lt (blk_lt (g := gb340) (o := .cells #[.int .i64 a0_0, .slice A0_1 l0_1.length c0_1, .slice A0_2 l0_2.length c0_2, .slice A0_3 l0_3.length c0_3, .slice A0_4 l0_4.length c0_4, .slice A0_5 l0_5.length c0_5] 33 (0, 0)) (by (with_reducible repeat (first | refine blk_drewN ?_ _ | refine blk_drew ?_ | refine blk_alloc ?_ _)); exact BK340.out)) : gb340 ≠ gb341)); have n6_ := Aside0.mk ((by rw [hg]; exact Nat.ne_of_gt (blk_lt (g := gb340) (o := .cells #[.int .i64 a0_0, .slice A0_1 l0_1.length c0_1, .slice A0_2 l0_2.length c0_2, .slice A0_3 l0_3.length c0_3, .slice A0_4 l0_4.length c0_4, .slice A0_5 l0_5.length c0_5] 33 (0, 0)) (by (with_reducible repeat (first | refine blk_drewN ?_ _ | refine blk_drew ?_ | refine blk_alloc ?_ _)); exact BK340.out)) : gb341 ≠ gb340)); clear BK340; clear HB; have BK340 := n0_; have HB := n1_; have BK341 := n2_; have GW341 := n3_; have GE341 := n4_; have NB340_341 := n5_; have NB341_340 := n6_; clear n0_ n1_ n2_ n3_ n4_ n5_ n6_; clear hb hbox hg; have hnb15 := NB340_341.out; have hnc15 := NB341_340.out; have hcz16_0 : w14.cell? ⟨gb340, 0, none⟩ = some (.int .i64 a0_0) := (blk_cell BK340.out 0).trans rfl; have hcz16_1 : w14.cell? ⟨gb340, 1, none⟩ = some (.slice A0_1 l0_1.length c0_1) := (blk_cell BK340.out 1).trans rfl; have hcz16_2 : w14.cell? ⟨gb340, 2, none⟩ = some (.slice A0_2 l0_2.length c0_2) := (blk_cell BK340.out 2).trans rfl; have hcz16_3 : w14.cell? ⟨gb340, 3, none⟩ = some (.slice A0_3 l0_3.length c0_3) := (blk_cell BK340.out 3).trans rfl; have hcz16_4 : w14.cell? ⟨gb340, 4, none⟩ = some (.slice A0_4 l0_4.length c0_4) := (blk_cell BK340.out 4).trans rfl; have hcz16_5 : w14.cell? ⟨gb340, 5, none⟩ = some (.slice A0_5 l0_5.length c0_5) := (blk_cell BK340.out 5).trans rfl; have hfz16_0 := blk_frozen BK340.out 0; have hfz16_1 := blk_frozen BK340.out 1; have hfz16_2 := blk_frozen BK340.out 2; have hfz16_3 := blk_frozen BK340.out 3; have hfz16_4 := blk_frozen BK340.out 4; have hfz16_5 := blk_frozen BK340.out 5; have hcz17_0 : w14.cell? ⟨gb341, 0, none⟩ = some (.int .i64 a1_0) := (blk_cell BK341.out 0).trans rfl; have hcz17_1 : w14.cell? ⟨gb341, 1, none⟩ = some (.slice A1_1 l1_1.length c1_1) := (blk_cell BK341.out 1).trans rfl; have hcz17_2 : w14.cell? ⟨gb341, 2, none⟩ = some (.slice A1_2 l1_2.length c1_2) := (blk_cell BK341.out 2).trans rfl; have hcz17_3 : w14.cell? ⟨gb341, 3, none⟩ = some (.slice A1_3 l1_3.length c1_3) := (blk_cell BK341.out 3).trans rfl; have hcz17_4 : w14.cell? ⟨gb341, 4, none⟩ = some (.slice A1_4 l1_4.length c1_4) := (blk_cell BK341.out 4).trans rfl; have hcz17_5 : w14.cell? ⟨gb341, 5, none⟩ = some (.slice A1_5 l1_5.length c1_5) := (blk_cell BK341.out 5).trans rfl; have hfz17_0 := blk_frozen BK341.out 0; have hfz17_1 := blk_frozen BK341.out 1; have hfz17_2 := blk_frozen BK341.out 2; have hfz17_3 := blk_frozen BK341.out 3; have hfz17_4 := blk_frozen BK341.out 4; have hfz17_5 := blk_frozen BK341.out 5) | (go_at_call 24; (with_reducible refine (slabvaultlaw12_lists.calls k _ _ l0_1 _ _ l1_1 true _ ?side1 ?side2 ?side3 ?side4 A4.out).mono ?_); (case side1 => repeat (first | exact (Kd.C_below HR0_1.out HB.out) | (with_reducible refine Kd.C_alloc ?_ _) | (with_reducible refine Kd.C_drewN ?_ _) | (with_reducible refine Kd.C_drew ?_))); (case side2 => exact HC0_1.out); (case side3 => repeat (first | exact (Kd.C_below HR1_1.out HB.out) | (with_reducible refine Kd.C_alloc ?_ _) | (with_reducible refine Kd.C_drewN ?_ _) | (with_reducible refine Kd.C_drew ?_))); (case side4 => exact HC1_1.out); rintro e w' ⟨rfl, ⟨nd, rfl⟩⟩) | (go_at_call 17; (with_reducible refine (slabvaultlaw12_ints.calls k _ _ l0_2 _ _ l1_2 true _ ?side1 ?side2 ?side3 ?side4 A6.out).mono ?_); (case side1 => repeat (first | exact (Kd.C_below HR0_2.out (by repeat (first | (with_reducible first | exact HB.out | apply below_alloc | apply pw_below_drewN | apply below_drew1 | refine below_set ?_ GE340.out | refine below_set ?_ GE341.out) | exact HB.out))) | (with_reducible refine Kd.C_alloc ?_ _) | (with_reducible refine Kd.C_drewN ?_ _) | (with_reducible refine Kd.C_drew ?_))); (case side2 => exact HC0_2.out); (case side3 => repeat (first | exact (Kd.C_below HR1_2.out (by repeat (first | (with_reducible first | exact HB.out | apply below_alloc | apply pw_below_drewN | apply below_drew1 | refine below_set ?_ GE340.out | refine below_set ?_ GE341.out) | exact HB.out))) | (with_reducible refine Kd.C_alloc ?_ _) | (with_reducible refine Kd.C_drewN ?_ _) | (with_reducible refine Kd.C_drew ?_))); (case side4 => exact HC1_2.out); rintro e w' ⟨rfl, ⟨nd, rfl⟩⟩) | (go_at_call 17; (with_reducible refine (slabvaultlaw12_ints.calls k _ _ l0_3 _ _ l1_3 true _ ?side1 ?side2 ?side3 ?side4 A8.out).mono ?_); (case side1 => repeat (first | exact (Kd.C_below HR0_3.out (by repeat (first | (with_reducible first | exact HB.out | apply below_alloc | apply pw_below_drewN | apply below_drew1 | refine below_set ?_ GE340.out | refine below_set ?_ GE341.out) | exact HB.out))) | (with_reducible refine Kd.C_alloc ?_ _) | (with_reducible refine Kd.C_drewN ?_ _) | (with_reducible refine Kd.C_drew ?_))); (case side2 => exact HC0_3.out); (case side3 => repeat (first | exact (Kd.C_below HR1_3.out (by repeat (first | (with_reducible first | exact HB.out | apply below_alloc | apply pw_below_drewN | apply below_drew1 | refine below_set ?_ GE340.out | refine below_set ?_ GE341.out) | exact HB.out))) | (with_reducible refine Kd.C_alloc ?_ _) | (with_reducible refine Kd.C_drewN ?_ _) | (with_reducible refine Kd.C_drew ?_))); (case side4 => exact HC1_3.out); rintro e w' ⟨rfl, ⟨nd, rfl⟩⟩) | (go_at_call 17; (with_reducible refine (slabvaultlaw12_ints.calls k _ _ l0_4 _ _ l1_4 true _ ?side1 ?side2 ?side3 ?side4 A10.out).mono ?_); (case side1 => repeat (first | exact (Kd.C_below HR0_4.out (by repeat (first | (with_reducible first | exact HB.out | apply below_alloc | apply pw_below_drewN | apply below_drew1 | refine below_set ?_ GE340.out | refine below_set ?_ GE341.out) | exact HB.out))) | (with_reducible refine Kd.C_alloc ?_ _) | (with_reducible refine Kd.C_drewN ?_ _) | (with_reducible refine Kd.C_drew ?_))); (case side2 => exact HC0_4.out); (case side3 => repeat (first | exact (Kd.C_below HR1_4.out (by repeat (first | (with_reducible first | exact HB.out | apply below_alloc | apply pw_below_drewN | apply below_drew1 | refine below_set ?_ GE340.out | refine below_set ?_ GE341.out) | exact HB.out))) | (with_reducible refine Kd.C_alloc ?_ _) | (with_reducible refine Kd.C_drewN ?_ _) | (with_reducible refine Kd.C_drew ?_))); (case side4 => exact HC1_4.out); rintro e w' ⟨rfl, ⟨nd, rfl⟩⟩) | (go_at_call 17; (with_reducible refine (slabvaultlaw12_ints.calls k _ _ l0_5 _ _ l1_5 t346 _ ?side1 ?side2 ?side3 ?side4 A12.out).mono ?_); (case side1 => repeat (first | exact (Kd.C_below HR0_5.out (by repeat (first | (with_reducible first | exact HB.out | apply below_alloc | apply pw_below_drewN | apply below_drew1 | refine below_set ?_ GE340.out | refine below_set ?_ GE341.out) | exact HB.out))) | (with_reducible refine Kd.C_alloc ?_ _) | (with_reducible refine Kd.C_drewN ?_ _) | (with_reducible refine Kd.C_drew ?_))); (case side2 => exact HC0_5.out); (case side3 => repeat (first | exact (Kd.C_below HR1_5.out (by repeat (first | (with_reducible first | exact HB.out | apply below_alloc | apply pw_below_drewN | apply below_drew1 | refine below_set ?_ GE340.out | refine below_set ?_ GE341.out) | exact HB.out))) | (with_reducible refine Kd.C_alloc ?_ _) | (with_reducible refine Kd.C_drewN ?_ _) | (with_reducible refine Kd.C_drew ?_))); (case side4 => exact HC1_5.out); rintro e w' ⟨rfl, ⟨nd, rfl⟩⟩))
            go_ret
            exact ⟨by first | rfl | (simp [errW_none, errW_some] <;> rfl) | (simp [*, errW_none, errW_some] <;> rfl), by repeat (first | (with_reducible first | exact HB.out | apply below_alloc | apply pw_below_drewN | apply below_drew1 | refine below_set ?_ GE340.out | refine below_set ?_ GE341.out) | exact HB.out)⟩
          · replace c11 := Bool.eq_false_iff.mpr c11
            subst c11
            have H1 : (none) = some r := by rw [if_neg (show ¬ (false = true) by decide)] at H; exact H
            clear H
            have H := H1
            clear H1
            exact absurd H (by simp)
        · replace c9 := Bool.eq_false_iff.mpr c9
          subst c9
          have H1 : (none) = some r := by rw [if_neg (show ¬ (false = true) by decide)] at H; exact H
          clear H
          have H := H1
          clear H1
          exact absurd H (by simp)
      · replace c7 := Bool.eq_false_iff.mpr c7
        subst c7
        have H1 : (none) = some r := by rw [if_neg (show ¬ (false = true) by decide)] at H; exact H
        clear H
        have H := H1
        clear H1
        exact absurd H (by simp)
    · replace c5 := Bool.eq_false_iff.mpr c5
      subst c5
      have H1 : (none) = some r := by rw [if_neg (show ¬ (false = true) by decide)] at H; exact H
      clear H
      have H := H1
      clear H1
      exact absurd H (by simp)
  · rw [if_neg c3] at H
    exact absurd H (by simp)
end Go.Proofs.Ytjbjofmcmjojlaa.Wk
end
section
namespace Go.Proofs.Ytjbjofmcmjojlaa.Wk
open Go.RowKit Go.Proofs.YtjbjofmcmjojlaaW.PrintWords Go.Proofs.YtjbjofmcmjojlaaW.PrintLast Go.Proofs.YtjbjofmcmjojlaaW.PrintMore
attribute [local go_sem] max2_int min2_int max_two min_two max_three min_three max_four min_four
set_option linter.unusedVariables false
set_option linter.unusedSimpArgs false
mutual
def slabvaultref12_Elements.l0 : Nat → List Int → Int → Int → Option (Int × Int)
  | 0, _, _, _ => none
  | k + 1, x0, x4, x5 => if x5 < (x0.length : Int) then (if 0 ≤ x5 then (if (rd x0 x5) < 0 then (some (0, 2)) else (if (rd x0 x5) > 1048576 then (some (0, 2)) else (slabvaultref12_Elements.l0 k x0 x4 (wrap64 (x5 + 1))))) else (none)) else (slabvaultref12_Elements.l1 k x0 x4 0)
def slabvaultref12_Elements.l1 : Nat → List Int → Int → Int → Option (Int × Int)
  | 0, _, _, _ => none
  | k + 1, x0, x4, x6 => if x6 < (x0.length : Int) then (if 0 ≤ x6 then (if (rd x0 x6) = 0 then (some (0, 0)) else (slabvaultref12_Elements.l1 k x0 x4 (wrap64 (x6 + 1)))) else (none)) else (slabvaultref12_Elements.l2 k x0 x4 0)
def slabvaultref12_Elements.l2 : Nat → List Int → Int → Int → Option (Int × Int)
  | 0, _, _, _ => none
  | k + 1, x0, x4, x7 => if x7 < (x0.length : Int) then (if 0 ≤ x7 then (if (wrap64 (x4 * (rd x0 x7))) > 1048576 then (some (0, 3)) else (slabvaultref12_Elements.l2 k x0 (wrap64 (x4 * (rd x0 x7))) (wrap64 (x7 + 1)))) else (none)) else (some (x4, 0))
end
def slabvaultref12_Elements.f (k : Nat) (l0 : List Int) : Option (Int × Int) := if (l0.length : Int) > 4 then (some (0, 2)) else (slabvaultref12_Elements.l0 k l0 1 0)
set_option maxHeartbeats 8000000 in
set_option maxRecDepth 100000 in
theorem slabvaultref12_Elements.calls (k : Nat) (A0 : Option Addr) (c0 : Nat) (l0 : List Int) (r1 : Int) (r2 : Int) (w : World) (hr0 : Kd.C (Kd.int .i64) w A0 l0.length l0) (hc0 : l0.length ≤ c0) (h : slabvaultref12_Elements.f k l0 = some (r1, r2)) :
    Calls Try.prog 12 #[.slice A0 l0.length c0] w fun e w' => e = .returned (.tuple #[.int .i64 r1, .int .i64 r2]) ∧ Drawn0 w w' := by
  have HR0 := Aside0.mk hr0
  have HC0 := Aside0.mk hc0
  clear hr0 hc0
  have H : (if (l0.length : Int) > 4 then (some (0, 2)) else (slabvaultref12_Elements.l0 k l0 1 0)) = some (r1, r2) := h
  clear h
  by_cases c2 : (l0.length : Int) > 4
  · rw [if_pos c2] at H
    have c2b0 : decide (4 < (l0.length : Int)) = true := decide_eq_true c2
    have c2b1 : decide (4 < l0.length) = true := decide_eq_true (by omega)
    clear c2
    simp only [Option.some.injEq, Prod.mk.injEq] at H
    obtain ⟨rfl, rfl⟩ := H
    go_enter Try.func12, Try.ntmps12
    go_wp2
    go_ret2
    exact ⟨by first | rfl | (simp; done) | (simp [*]; done), by repeat (first | exact Drawn0.refl _ | apply Drawn0.step)⟩
  · rw [if_neg c2] at H
    have c2b0 : decide (4 < (l0.length : Int)) = false := decide_eq_false c2
    have c2b1 : decide (4 < l0.length) = false := decide_eq_false (by omega)
    clear c2
    have H' := Aside0.mk H
    clear H
    go_enter Try.func12, Try.ntmps12
    go_wp2
    go_loopg [5] k (fun kq v5 w' => ∃ (x5_1 : Int), v5 = .int .i64 x5_1 ∧ Aside0 (slabvaultref12_Elements.l0 kq l0 1 x5_1 = some (r1, r2)) ∧ Aside0 (kq ≤ k) ∧ Drawn0 w w')
    case atStart => exact ⟨(0), (by first | rfl | (simp; done) | (simp [*]; done)), H', ⟨Nat.le_refl _⟩, by repeat (first | exact Drawn0.refl _ | apply Drawn0.step)⟩
    case round =>
      clear H'
      try clear c1
      try clear c2
      try clear c2b0
      try clear c2b1
      try clear p2
      obtain ⟨x5_1, rfl, HA, HK1, ⟨m1, rfl⟩⟩ := hrel
      cases gk with
      | zero => exact absurd HA.out (by simp [slabvaultref12_Elements.l0])
      | succ k1 =>
        have H := HA.out
        clear HA
        simp only [slabvaultref12_Elements.l0] at H
        by_cases c3 : x5_1 < (l0.length : Int)
        · rw [if_pos c3] at H
          have c3b0 : decide (x5_1 < (l0.length : Int)) = true := decide_eq_true c3
          clear c3
          by_cases c4 : 0 ≤ x5_1
          · rw [if_pos c4] at H
            have c4b0 : decide (0 ≤ x5_1) = true := decide_eq_true c4
            clear c4
            by_cases c5 : (rd l0 x5_1) < 0
            · rw [if_pos c5] at H
              have c5b0 : decide ((rd l0 x5_1) < 0) = true := decide_eq_true c5
              clear c5
              simp only [Option.some.injEq, Prod.mk.injEq] at H
              obtain ⟨rfl, rfl⟩ := H
              have p103 : 0 ≤ (x5_1 : Int) := of_decide_eq_true (by first | (with_reducible assumption) | assumption)
              have q103 : x5_1 < (l0.length : Int) := of_decide_eq_true (by first | (with_reducible assumption) | assumption)
              obtain ⟨ad103, e103, hx103_0⟩ := Kd.at_int HR0.out x5_1 p103 q103
              cases e103
              replace p103 := eq_true p103
              replace q103 := eq_true q103
              go_wp2
              go_ret2
              exact ⟨by first | rfl | (simp; done) | (simp [*]; done), by repeat (first | exact Drawn0.refl _ | apply Drawn0.step)⟩
            · rw [if_neg c5] at H
              have c5b0 : decide ((rd l0 x5_1) < 0) = false := decide_eq_false c5
              clear c5
              by_cases c6 : (rd l0 x5_1) > 1048576
              · rw [if_pos c6] at H
                have c6b0 : decide (1048576 < (rd l0 x5_1)) = true := decide_eq_true c6
                clear c6
                simp only [Option.some.injEq, Prod.mk.injEq] at H
                obtain ⟨rfl, rfl⟩ := H
                have p103 : 0 ≤ (x5_1 : Int) := of_decide_eq_true (by first | (with_reducible assumption) | assumption)
                have q103 : x5_1 < (l0.length : Int) := of_decide_eq_true (by first | (with_reducible assumption) | assumption)
                obtain ⟨ad103, e103, hx103_0⟩ := Kd.at_int HR0.out x5_1 p103 q103
                cases e103
                replace p103 := eq_true p103
                replace q103 := eq_true q103
                have p104 : 0 ≤ (x5_1 : Int) := of_decide_eq_true (by first | (with_reducible assumption) | assumption)
                have q104 : x5_1 < (l0.length : Int) := of_decide_eq_true (by first | (with_reducible assumption) | assumption)
                obtain ⟨ad104, e104, hx104_0⟩ := Kd.at_int HR0.out x5_1 p104 q104
                obtain rfl : ad103 = ad104 := (by injection e104)
                replace p104 := eq_true p104
                replace q104 := eq_true q104
                go_wp2
                go_ret2
                exact ⟨by first | rfl | (simp; done) | (simp [*]; done), by repeat (first | exact Drawn0.refl _ | apply Drawn0.step)⟩
              · rw [if_neg c6] at H
                have c6b0 : decide (1048576 < (rd l0 x5_1)) = false := decide_eq_false c6
                clear c6
                have H' := Aside0.mk H
                clear H
                have p103 : 0 ≤ (x5_1 : Int) := of_decide_eq_true (by first | (with_reducible assumption) | assumption)
                have q103 : x5_1 < (l0.length : Int) := of_decide_eq_true (by first | (with_reducible assumption) | assumption)
                obtain ⟨ad103, e103, hx103_0⟩ := Kd.at_int HR0.out x5_1 p103 q103
                cases e103
                replace p103 := eq_true p103
                replace q103 := eq_true q103
                have p104 : 0 ≤ (x5_1 : Int) := of_decide_eq_true (by first | (with_reducible assumption) | assumption)
                have q104 : x5_1 < (l0.length : Int) := of_decide_eq_true (by first | (with_reducible assumption) | assumption)
                obtain ⟨ad104, e104, hx104_0⟩ := Kd.at_int HR0.out x5_1 p104 q104
                obtain rfl : ad103 = ad104 := (by injection e104)
                replace p104 := eq_true p104
                replace q104 := eq_true q104
                go_wp2
                go_roundg k1
                case measure => have := HK1.out; omega
                case rel => exact ⟨(wrap64 (x5_1 + 1)), (by first | rfl | (simp; done) | (simp [*]; done)), H', ⟨by have := HK1.out; omega⟩, by repeat (first | exact Drawn0.refl _ | apply Drawn0.step)⟩
          · rw [if_neg c4] at H
            exact absurd H (by simp)
        · rw [if_neg c3] at H
          have c3b0 : decide (x5_1 < (l0.length : Int)) = false := decide_eq_false c3
          clear c3
          have H' := Aside0.mk H
          clear H
          go_wp2
          go_loopg [6] k1 (fun kq v6 w' => ∃ (x6_2 : Int), v6 = .int .i64 x6_2 ∧ Aside0 (slabvaultref12_Elements.l1 kq l0 1 x6_2 = some (r1, r2)) ∧ Aside0 (kq ≤ k1) ∧ Drawn0 w w')
          case atStart => exact ⟨(0), (by first | rfl | (simp; done) | (simp [*]; done)), H', ⟨Nat.le_refl _⟩, by repeat (first | exact Drawn0.refl _ | apply Drawn0.step)⟩
          case round =>
            clear H'
            try clear c1
            try clear p1
            try clear q1
            try clear hx1
            try clear c2
            try clear c2b0
            try clear c2b1
            try clear p2
            try clear c3
            try clear c3b0
            try clear c4
            try clear c4b0
            try clear c5
            try clear c5b0
            try clear c6
            try clear c6b0
            try clear p6
            try clear hx103_0
            try clear hx104_0
            try clear p103
            try clear p104
            try clear p2
            try clear q103
            try clear q104
            obtain ⟨x6_2, rfl, HA, HK2, ⟨m2, rfl⟩⟩ := hrel
            cases gk with
            | zero => exact absurd HA.out (by simp [slabvaultref12_Elements.l1])
            | succ k2 =>
              have H := HA.out
              clear HA
              simp only [slabvaultref12_Elements.l1] at H
              by_cases c7 : x6_2 < (l0.length : Int)
              · rw [if_pos c7] at H
                have c7b0 : decide (x6_2 < (l0.length : Int)) = true := decide_eq_true c7
                clear c7
                by_cases c8 : 0 ≤ x6_2
                · rw [if_pos c8] at H
                  have c8b0 : decide (0 ≤ x6_2) = true := decide_eq_true c8
                  clear c8
                  by_cases c9 : (rd l0 x6_2) = 0
                  · rw [if_pos c9] at H
                    have c9b0 : ((rd l0 x6_2) == 0) = true := beq_iff_eq.mpr c9
                    have c9b1 : ((rd l0 x6_2) != 0) = false := bne_eq_false_iff_eq.mpr c9
                    clear c9
                    simp only [Option.some.injEq, Prod.mk.injEq] at H
                    obtain ⟨rfl, rfl⟩ := H
                    have p105 : 0 ≤ (x6_2 : Int) := of_decide_eq_true (by first | (with_reducible assumption) | assumption)
                    have q105 : x6_2 < (l0.length : Int) := of_decide_eq_true (by first | (with_reducible assumption) | assumption)
                    obtain ⟨ad105, e105, hx105_0⟩ := Kd.at_int HR0.out x6_2 p105 q105
                    cases e105
                    replace p105 := eq_true p105
                    replace q105 := eq_true q105
                    go_wp2
                    go_ret2
                    exact ⟨by first | rfl | (simp; done) | (simp [*]; done), by repeat (first | exact Drawn0.refl _ | apply Drawn0.step)⟩
                  · rw [if_neg c9] at H
                    have c9b0 : ((rd l0 x6_2) == 0) = false := beq_eq_false_iff_ne.mpr c9
                    have c9b1 : ((rd l0 x6_2) != 0) = true := bne_iff_ne.mpr c9
                    have H' := Aside0.mk H
                    clear H
                    have p105 : 0 ≤ (x6_2 : Int) := of_decide_eq_true (by first | (with_reducible assumption) | assumption)
                    have q105 : x6_2 < (l0.length : Int) := of_decide_eq_true (by first | (with_reducible assumption) | assumption)
                    obtain ⟨ad105, e105, hx105_0⟩ := Kd.at_int HR0.out x6_2 p105 q105
                    cases e105
                    replace p105 := eq_true p105
                    replace q105 := eq_true q105
                    go_wp2
                    go_roundg k2
                    case measure => have := HK1.out; have := HK2.out; omega
                    case rel => exact ⟨(wrap64 (x6_2 + 1)), (by first | rfl | (simp; done) | (simp [*]; done)), H', ⟨by have := HK1.out; have := HK2.out; omega⟩, by repeat (first | exact Drawn0.refl _ | apply Drawn0.step)⟩
                · rw [if_neg c8] at H
                  exact absurd H (by simp)
              · rw [if_neg c7] at H
                have c7b0 : decide (x6_2 < (l0.length : Int)) = false := decide_eq_false c7
                clear c7
                have H' := Aside0.mk H
                clear H
                go_wp2
                go_loopg [4, 7] k2 (fun kq v4 v7 w' => ∃ (x4_3 : Int) (x7_3 : Int), v4 = .int .i64 x4_3 ∧ v7 = .int .i64 x7_3 ∧ Aside0 (slabvaultref12_Elements.l2 kq l0 x4_3 x7_3 = some (r1, r2)) ∧ Aside0 (kq ≤ k2) ∧ Drawn0 w w')
                case atStart => exact ⟨(1), (0), (by first | rfl | (simp; done) | (simp [*]; done)), (by first | rfl | (simp; done) | (simp [*]; done)), H', ⟨Nat.le_refl _⟩, by repeat (first | exact Drawn0.refl _ | apply Drawn0.step)⟩
                case round =>
                  clear H'
                  try clear c1
                  try clear p1
                  try clear q1
                  try clear hx1
                  try clear c2
                  try clear c2b0
                  try clear c2b1
                  try clear p2
                  try clear c3
                  try clear c3b0
                  try clear c4
                  try clear c4b0
                  try clear c5
                  try clear c5b0
                  try clear c6
                  try clear c6b0
                  try clear p6
                  try clear c7
                  try clear c7b0
                  try clear c8
                  try clear c8b0
                  try clear c9
                  try clear c9b0
                  try clear c9b1
                  try clear hx103_0
                  try clear hx104_0
                  try clear hx105_0
                  try clear p1
                  try clear p103
                  try clear p104
                  try clear p105
                  try clear p2
                  try clear p6
                  try clear q1
                  try clear q103
                  try clear q104
                  try clear q105
                  obtain ⟨x4_3, x7_3, rfl, rfl, HA, HK3, ⟨m3, rfl⟩⟩ := hrel
                  cases gk with
                  | zero => exact absurd HA.out (by simp [slabvaultref12_Elements.l2])
                  | succ k3 =>
                    have H := HA.out
                    clear HA
                    simp only [slabvaultref12_Elements.l2] at H
                    by_cases c10 : x7_3 < (l0.length : Int)
                    · rw [if_pos c10] at H
                      have c10b0 : decide (x7_3 < (l0.length : Int)) = true := decide_eq_true c10
                      clear c10
                      by_cases c11 : 0 ≤ x7_3
                      · rw [if_pos c11] at H
                        have c11b0 : decide (0 ≤ x7_3) = true := decide_eq_true c11
                        clear c11
                        by_cases c12 : (wrap64 (x4_3 * (rd l0 x7_3))) > 1048576
                        · rw [if_pos c12] at H
                          have c12b0 : decide (1048576 < (wrap64 (x4_3 * (rd l0 x7_3)))) = true := decide_eq_true c12
                          clear c12
                          simp only [Option.some.injEq, Prod.mk.injEq] at H
                          obtain ⟨rfl, rfl⟩ := H
                          have p106 : 0 ≤ (x7_3 : Int) := of_decide_eq_true (by first | (with_reducible assumption) | assumption)
                          have q106 : x7_3 < (l0.length : Int) := of_decide_eq_true (by first | (with_reducible assumption) | assumption)
                          obtain ⟨ad106, e106, hx106_0⟩ := Kd.at_int HR0.out x7_3 p106 q106
                          cases e106
                          replace p106 := eq_true p106
                          replace q106 := eq_true q106
                          go_wp2
                          go_ret2
                          exact ⟨by first | rfl | (simp; done) | (simp [*]; done), by repeat (first | exact Drawn0.refl _ | apply Drawn0.step)⟩
                        · rw [if_neg c12] at H
                          have c12b0 : decide (1048576 < (wrap64 (x4_3 * (rd l0 x7_3)))) = false := decide_eq_false c12
                          clear c12
                          have H' := Aside0.mk H
                          clear H
                          have p106 : 0 ≤ (x7_3 : Int) := of_decide_eq_true (by first | (with_reducible assumption) | assumption)
                          have q106 : x7_3 < (l0.length : Int) := of_decide_eq_true (by first | (with_reducible assumption) | assumption)
                          obtain ⟨ad106, e106, hx106_0⟩ := Kd.at_int HR0.out x7_3 p106 q106
                          cases e106
                          replace p106 := eq_true p106
                          replace q106 := eq_true q106
                          go_wp2
                          go_roundg k3
                          case measure => have := HK1.out; have := HK2.out; have := HK3.out; omega
                          case rel => exact ⟨(wrap64 (x4_3 * (rd l0 x7_3))), (wrap64 (x7_3 + 1)), (by first | rfl | (simp; done) | (simp [*]; done)), (by first | rfl | (simp; done) | (simp [*]; done)), H', ⟨by have := HK1.out; have := HK2.out; have := HK3.out; omega⟩, by repeat (first | exact Drawn0.refl _ | apply Drawn0.step)⟩
                      · rw [if_neg c11] at H
                        exact absurd H (by simp)
                    · rw [if_neg c10] at H
                      have c10b0 : decide (x7_3 < (l0.length : Int)) = false := decide_eq_false c10
                      clear c10
                      simp only [Option.some.injEq, Prod.mk.injEq] at H
                      obtain ⟨rfl, rfl⟩ := H
                      go_wp2
                      go_ret2
                      exact ⟨by first | rfl | (simp; done) | (simp [*]; done), by repeat (first | exact Drawn0.refl _ | apply Drawn0.step)⟩
end Go.Proofs.Ytjbjofmcmjojlaa.Wk
end
section
namespace Go.Proofs.Ytjbjofmcmjojlaa.Wk
open Go.RowKit Go.Proofs.YtjbjofmcmjojlaaW.PrintWords Go.Proofs.YtjbjofmcmjojlaaW.PrintLast Go.Proofs.YtjbjofmcmjojlaaW.PrintMore
attribute [local go_sem] max2_int min2_int max_two min_two max_three min_three max_four min_four
set_option linter.unusedVariables false
set_option linter.unusedSimpArgs false
def slabvaultref12_product.j0 : Nat → Int → Int → Bool → Option (Int)
  | 0, _, _, _ => none
  | k + 1, x0, x1, x10 => if x10 = true then (some 0) else (if x0 > 4096 then (some 4097) else (if x1 > 4096 then (some 4097) else (some (mn (wrap64 (x0 * x1)) 4097))))
def slabvaultref12_product.f (k : Nat) (a0 : Int) (a1 : Int) : Option (Int) := if a0 = 0 then (slabvaultref12_product.j0 k a0 a1 true) else (slabvaultref12_product.j0 k a0 a1 (a1 == 0))
set_option maxHeartbeats 8000000 in
set_option maxRecDepth 100000 in
theorem slabvaultref12_product.calls (k : Nat) (a0 : Int) (a1 : Int) (r : Int) (w : World) (h : slabvaultref12_product.f k a0 a1 = some r) :
    Calls Try.prog 45 #[.int .i64 a0, .int .i64 a1] w fun e w' => e = .returned (.int .i64 r) ∧ Below w.heap.size w w' := by
  have HB := Aside0.mk (Below.refl w.heap.size w)
  have H : (if a0 = 0 then (slabvaultref12_product.j0 k a0 a1 true) else (slabvaultref12_product.j0 k a0 a1 (a1 == 0))) = some r := h
  clear h
  have HC3 := Aside0.mk H
  clear H
  go_enter Try.func45, Try.ntmps45
  go_upto_region 1 with (fail)
  go_cut [10] (fun v10 wc => ∃ (kq : Nat) (x10_2 : Bool), v10 = .bool x10_2 ∧ Aside0 (slabvaultref12_product.j0 kq a0 a1 x10_2 = some r) ∧ Aside0 (kq ≤ k) ∧ Aside0 (Below w.heap.size w wc))
  case first =>
    have H := HC3.out
    clear HC3
    by_cases c4 : a0 = 0
    · rw [if_pos c4] at H
      have c4b0 : (a0 == 0) = true := beq_iff_eq.mpr c4
      have c4b1 : (a0 != 0) = false := bne_eq_false_iff_eq.mpr c4
      clear c4
      (first | rw [c4b0] | (simp only [i64_w, i32_w]; rw [c4b0]) | skip)
      have H' := Aside0.mk H
      clear H
      go_wp2
      go_meet
      case rel => exact ⟨_, (true), (by first | rfl | (simp; done) | (simp [*]; done)), H', ⟨by first | omega | exact Nat.le_refl _⟩, ⟨by repeat (first | (with_reducible first | exact HB.out | apply below_alloc | apply pw_below_drewN | apply below_drew1) | exact HB.out)⟩⟩
    · rw [if_neg c4] at H
      have c4b0 : (a0 == 0) = false := beq_eq_false_iff_ne.mpr c4
      have c4b1 : (a0 != 0) = true := bne_iff_ne.mpr c4
      (first | rw [c4b0] | (simp only [i64_w, i32_w]; rw [c4b0]) | skip)
      have H' := Aside0.mk H
      clear H
      go_wp2
      go_meet
      case rel => exact ⟨_, ((a1 == 0)), (by first | rfl | (simp; done) | (simp [*]; done)), H', ⟨by first | omega | exact Nat.le_refl _⟩, ⟨by repeat (first | (with_reducible first | exact HB.out | apply below_alloc | apply pw_below_drewN | apply below_drew1) | exact HB.out)⟩⟩
  case rest =>
    clear HC3
    try clear p2
    try clear c4
    try clear c4b0
    try clear c4b1
    obtain ⟨kq, x10_2, rfl, HA, HJ2, HB⟩ := hcut
    cases kq with
    | zero => exact absurd HA.out (by simp [slabvaultref12_product.j0])
    | succ kj2 =>
      have H := HA.out
      clear HA
      simp only [slabvaultref12_product.j0] at H
      by_cases c5 : x10_2 = true
      · subst c5
        have H1 : (some 0) = some r := by rw [if_pos rfl] at H; exact H
        clear H
        have H := H1
        clear H1
        obtain rfl := Option.some.inj H
        go_wp2
        go_ret
        exact ⟨by first | rfl | (simp [errW_none, errW_some] <;> rfl) | (simp [*, errW_none, errW_some] <;> rfl), by repeat (first | (with_reducible first | exact HB.out | apply below_alloc | apply pw_below_drewN | apply below_drew1) | exact HB.out)⟩
      · replace c5 := Bool.eq_false_iff.mpr c5
        subst c5
        have H1 : (if a0 > 4096 then (some 4097) else (if a1 > 4096 then (some 4097) else (some (mn (wrap64 (a0 * a1)) 4097)))) = some r := by rw [if_neg (show ¬ (false = true) by decide)] at H; exact H
        clear H
        have H := H1
        clear H1
        by_cases c6 : a0 > 4096
        · rw [if_pos c6] at H
          have c6b0 : decide (4096 < a0) = true := decide_eq_true c6
          clear c6
          obtain rfl := Option.some.inj H
          go_wp2
          go_ret
          exact ⟨by first | rfl | (simp [errW_none, errW_some] <;> rfl) | (simp [*, errW_none, errW_some] <;> rfl), by repeat (first | (with_reducible first | exact HB.out | apply below_alloc | apply pw_below_drewN | apply below_drew1) | exact HB.out)⟩
        · rw [if_neg c6] at H
          have c6b0 : decide (4096 < a0) = false := decide_eq_false c6
          clear c6
          by_cases c7 : a1 > 4096
          · rw [if_pos c7] at H
            have c7b0 : decide (4096 < a1) = true := decide_eq_true c7
            clear c7
            obtain rfl := Option.some.inj H
            go_wp2
            go_ret
            exact ⟨by first | rfl | (simp [errW_none, errW_some] <;> rfl) | (simp [*, errW_none, errW_some] <;> rfl), by repeat (first | (with_reducible first | exact HB.out | apply below_alloc | apply pw_below_drewN | apply below_drew1) | exact HB.out)⟩
          · rw [if_neg c7] at H
            have c7b0 : decide (4096 < a1) = false := decide_eq_false c7
            clear c7
            obtain ⟨ji8, hji8⟩ : ∃ j_ : Int, (mn (wrap64 (a0 * a1)) 4097) = j_ := ⟨_, rfl⟩
            replace H : (some ji8) = some r := by first | (rw [hji8] at H; exact H) | (simp only [hji8] at H ⊢; exact H)
            have hji8_ : (if 4097 < (wrap64 (a0 * a1)) then 4097 else (wrap64 (a0 * a1))) = ji8 := hji8
            obtain rfl := Option.some.inj H
            go_wp2
            go_ret
            exact ⟨by first | rfl | (simp [errW_none, errW_some] <;> rfl) | (simp only [← hji8]; first | rfl | (simp [errW_none, errW_some] <;> rfl)) | (simp [*, errW_none, errW_some] <;> rfl), by repeat (first | (with_reducible first | exact HB.out | apply below_alloc | apply pw_below_drewN | apply below_drew1) | exact HB.out)⟩
end Go.Proofs.Ytjbjofmcmjojlaa.Wk
end
section
namespace Go.Proofs.Ytjbjofmcmjojlaa.Wk
open Go.RowKit Go.Proofs.YtjbjofmcmjojlaaW.PrintWords Go.Proofs.YtjbjofmcmjojlaaW.PrintLast Go.Proofs.YtjbjofmcmjojlaaW.PrintMore
attribute [local go_sem] max2_int min2_int max_two min_two max_three min_three max_four min_four
set_option linter.unusedVariables false
set_option linter.unusedSimpArgs false
mutual
def slabvaultref12_selected.l0 : Nat → List Int → Int → Int → Int → List (List Int) → List Int → List Int → List Int → List Int → Option (Int)
 | 0, _, _, _, _, _, _, _, _, _ => none
 | k + 1, x0, x5, x6, x224000, x224001, x224002, x224003, x224004, x224005 => if x6 < (x0.length : Int) then (if 0 ≤ x6 then (if x6 < (x224004.length : Int) then (if (rd x224004 x6) = 0 then (some 0) else (if x6 < (x224005.length : Int) then (if (rd x224005 x6) = 0 then (some 0) else (slabvaultref12_selected.l0 k x0 x5 (wrap64 (x6 + 1)) x224000 x224001 x224002 x224003 x224004 x224005)) else (none))) else (none)) else (none)) else (slabvaultref12_selected.l1 k x0 x5 0 x224000 x224001 x224002 x224003 x224004 x224005)
def slabvaultref12_selected.l1 : Nat → List Int → Int → Int → Int → List (List Int) → List Int → List Int → List Int → List Int → Option (Int)
 | 0, _, _, _, _, _, _, _, _, _ => none
 | k + 1, x0, x5, x7, x224000, x224001, x224002, x224003, x224004, x224005 => if x7 < (x0.length : Int) then (if 0 ≤ x7 then (if x7 < (x224004.length : Int) then (if x7 < (x224005.length : Int) then ((slabvaultref12_product.f k (rd x224004 x7) (rd x224005 x7)).bind fun t230 => ((slabvaultref12_product.f k x5 t230).bind fun t231 => (slabvaultref12_selected.l1 k x0 t231 (wrap64 (x7 + 1)) x224000 x224001 x224002 x224003 x224004 x224005))) else (none)) else (none)) else (none)) else (some (mn x5 4097))
end
def slabvaultref12_selected.f (k : Nat) (l0 : List Int) (a1_0 : Int) (l1_1 : List (List Int)) (l1_2 : List Int) (l1_3 : List Int) (l1_4 : List Int) (l1_5 : List Int) : Option (Int) := if a1_0 = 1 then ((slabvaultref12_Elements.f k l0).bind fun bt224 => (some (mn bt224.1 4097))) else (if a1_0 = 2 then (some (mn (l1_1.length : Int) 4097)) else (if a1_0 = 3 then (slabvaultref12_selected.l0 k l0 1 0 a1_0 l1_1 l1_2 l1_3 l1_4 l1_5) else (some (mn 1 4097))))
def slabvaultref12_selected.T16 : Bool × List (List Nat × List Nat) := (true, [([], []), ([], []), ([1], [1]), ([], []), ([2, 3], [2, 3]), ([4], [4]), ([], []), ([6], [6]), ([], []), ([7, 8], [7, 8]), ([9], [9]), ([5, 10], [5, 10]), ([0, 11, 11], [0, 11]), ([12, 12, 0, 1, 2, 3, 4, 5, 6, 7, 8, 9, 10, 11, 12], [0, 12])])
def slabvaultref12_selected.B16 : List Nat := [0, 0, 2, 0, 14, 30, 0, 64, 0, 448, 960, 2046, 4095, 8191]
theorem slabvaultref12_selected.tab16 : rtab .any (opsOf Try.f34 16) = slabvaultref12_selected.T16 := by kernel_rfl
theorem slabvaultref12_selected.bits16 : waitsOk slabvaultref12_selected.T16.2 slabvaultref12_selected.B16 = true := by kernel_rfl
set_option maxHeartbeats 8000000 in
set_option maxRecDepth 100000 in
theorem slabvaultref12_selected.calls (k : Nat) (A0 : Option Addr) (c0 : Nat) (l0 : List Int) (a1_0 : Int) (A1_1 : Option Addr) (c1_1 : Nat) (l1_1 : List (List Int)) (A1_2 : Option Addr) (c1_2 : Nat) (l1_2 : List Int) (A1_3 : Option Addr) (c1_3 : Nat) (l1_3 : List Int) (A1_4 : Option Addr) (c1_4 : Nat) (l1_4 : List Int) (A1_5 : Option Addr) (c1_5 : Nat) (l1_5 : List Int) (r : Int) (w : World) (hr0 : Kd.C (Kd.int .i64) w A0 l0.length l0) (hc0 : l0.length ≤ c0) (hr1_1 : Kd.C (Kd.slice 3 (Kd.int .i64)) w A1_1 l1_1.length l1_1) (hc1_1 : l1_1.length ≤ c1_1) (hr1_2 : Kd.C (Kd.int .i64) w A1_2 l1_2.length l1_2) (hc1_2 : l1_2.length ≤ c1_2) (hr1_3 : Kd.C (Kd.int .i64) w A1_3 l1_3.length l1_3) (hc1_3 : l1_3.length ≤ c1_3) (hr1_4 : Kd.C (Kd.int .i64) w A1_4 l1_4.length l1_4) (hc1_4 : l1_4.length ≤ c1_4) (hr1_5 : Kd.C (Kd.int .i64) w A1_5 l1_5.length l1_5) (hc1_5 : l1_5.length ≤ c1_5) (h : slabvaultref12_selected.f k l0 a1_0 l1_1 l1_2 l1_3 l1_4 l1_5 = some r) :
 Calls Try.prog 34 #[.slice A0 l0.length c0, .agg #[.int .i64 a1_0, .slice A1_1 l1_1.length c1_1, .slice A1_2 l1_2.length c1_2, .slice A1_3 l1_3.length c1_3, .slice A1_4 l1_4.length c1_4, .slice A1_5 l1_5.length c1_5]] w fun e w' => e = .returned (.int .i64 r) ∧ Below w.heap.size w w' := by
 have hu33 := Try.underlying33
 have HR0 := Aside0.mk hr0
 have HC0 := Aside0.mk hc0
 clear hr0 hc0
 have HR1_1 := Aside0.mk hr1_1
 have HC1_1 := Aside0.mk hc1_1
 clear hr1_1 hc1_1
 have HR1_2 := Aside0.mk hr1_2
 have HC1_2 := Aside0.mk hc1_2
 clear hr1_2 hc1_2
 have HR1_3 := Aside0.mk hr1_3
 have HC1_3 := Aside0.mk hc1_3
 clear hr1_3 hc1_3
 have HR1_4 := Aside0.mk hr1_4
 have HC1_4 := Aside0.mk hc1_4
 clear hr1_4 hc1_4
 have HR1_5 := Aside0.mk hr1_5
 have HC1_5 := Aside0.mk hc1_5
 clear hr1_5 hc1_5
 have HB := Aside0.mk (Below.refl w.heap.size w)
 have H : (if a1_0 = 1 then ((slabvaultref12_Elements.f k l0).bind fun bt224 => (some (mn bt224.1 4097))) else (if a1_0 = 2 then (some (mn (l1_1.length : Int) 4097)) else (if a1_0 = 3 then (slabvaultref12_selected.l0 k l0 1 0 a1_0 l1_1 l1_2 l1_3 l1_4 l1_5) else (some (mn 1 4097))))) = some r := h
 clear h
 by_cases c3 : a1_0 = 1
 ·rw [if_pos c3] at H
  have c3b0 : (a1_0 == 1) = true := beq_iff_eq.mpr c3
  have c3b1 : (a1_0 != 1) = false := bne_eq_false_iff_eq.mpr c3
  clear c3
  replace H := Option.bind_eq_some_iff.mp H
  obtain ⟨⟨t224, t225⟩, A40, H⟩ := H
  replace H : (some (mn t224 4097)) = some r := H
  have A4 := Aside0.mk A40
  clear A40
  obtain ⟨ji5, hji5⟩ : ∃ j_ : Int, (mn t224 4097) = j_ := ⟨_, rfl⟩
  replace H : (some ji5) = some r := by (rw [hji5] at H; exact H)
  ((have hji5h : ji5 ≤ 4097 := by (rw [← hji5]; unfold mn; (repeat' split) <;> omega)))
  have hji5_ : (if 4097 < t224 then 4097 else t224) = ji5 := hji5
  obtain rfl := Option.some.inj H
  go_enter Try.func34, Try.ntmps34
  go_wp2_with (first | ((with_reducible refine gate_dst (N := 3) rfl ?_); refine box_event ?hg (N := 3) ?hd (cs := #[.int .i64 a1_0, .slice A1_1 l1_1.length c1_1, .slice A1_2 l1_2.length c1_2, .slice A1_3 l1_3.length c1_3, .slice A1_4 l1_4.length c1_4, .slice A1_5 l1_5.length c1_5]) (t := 33) ?hr ?_; (case hd => rfl); (case hg => rfl); (case hr => (go_simp; done)); intro gb223 hg w6 hbox hb; have n0_ := Aside0.mk (below_step (HB.out) hb); have n1_ := Aside0.mk (hbox); have n2_ := Aside0.mk ((by rw [hg]; exact (below_size (HB.out)) : w.heap.size ≤ gb223)); have n3_ := Aside0.mk ((by rw [hg]; exact (below_size (HB.out)) : w.heap.size ≤ gb223)); clear HB; have HB := n0_; have BK223 := n1_; have GW223 := n2_; have GE223 := n3_; clear n0_ n1_ n2_ n3_; clear hb hbox hg; have hcz7_0 : w6.cell? ⟨gb223, 0, none⟩ = some (.int .i64 a1_0) := (blk_cell BK223.out 0).trans rfl; have hcz7_1 : w6.cell? ⟨gb223, 1, none⟩ = some (.slice A1_1 l1_1.length c1_1) := (blk_cell BK223.out 1).trans rfl; have hcz7_2 : w6.cell? ⟨gb223, 2, none⟩ = some (.slice A1_2 l1_2.length c1_2) := (blk_cell BK223.out 2).trans rfl; have hcz7_3 : w6.cell? ⟨gb223, 3, none⟩ = some (.slice A1_3 l1_3.length c1_3) := (blk_cell BK223.out 3).trans rfl; have hcz7_4 : w6.cell? ⟨gb223, 4, none⟩ = some (.slice A1_4 l1_4.length c1_4) := (blk_cell BK223.out 4).trans rfl; have hcz7_5 : w6.cell? ⟨gb223, 5, none⟩ = some (.slice A1_5 l1_5.length c1_5) := (blk_cell BK223.out 5).trans rfl; have hfz7_0 := blk_frozen BK223.out 0; have hfz7_1 := blk_frozen BK223.out 1; have hfz7_2 := blk_frozen BK223.out 2; have hfz7_3 := blk_frozen BK223.out 3; have hfz7_4 := blk_frozen BK223.out 4; have hfz7_5 := blk_frozen BK223.out 5) | ((with_reducible refine gate_callee (f := 12) rfl ?_); refine goesL_ (some 14) rfl rfl Try.func12 (by kernel_rfl) rfl #[.slice A0 l0.length c0] rfl (by (simp only [List.map_toArray, List.map_cons, List.map_nil]); rfl) ?_; (with_reducible refine (slabvaultref12_Elements.calls k _ _ l0 t224 t225 _ ?side1 ?side2 A4.out).mono ?_); (case side1 => repeat (exact (Kd.C_below HR0.out HB.out))); (case side2 => exact HC0.out); rintro e w' ⟨rfl, ⟨nd, rfl⟩⟩; refine ⟨_, rfl, ?_⟩))
  go_ret
  exact ⟨by rfl, by repeat ((with_reducible first | exact HB.out | apply pw_below_drewN))⟩
 rw [if_neg c3] at H
 have c3b0 : (a1_0 == 1) = false := beq_eq_false_iff_ne.mpr c3
 have c3b1 : (a1_0 != 1) = true := bne_iff_ne.mpr c3
 by_cases c8 : a1_0 = 2
 ·rw [if_pos c8] at H
  have c8b0 : (a1_0 == 2) = true := beq_iff_eq.mpr c8
  have c8b1 : (a1_0 != 2) = false := bne_eq_false_iff_eq.mpr c8
  clear c8
  obtain ⟨ji9, hji9⟩ : ∃ j_ : Int, (mn (l1_1.length : Int) 4097) = j_ := ⟨_, rfl⟩
  replace H : (some ji9) = some r := by (rw [hji9] at H; exact H)
  ((have hji9h : ji9 ≤ 4097 := by (rw [← hji9]; unfold mn; (repeat' split) <;> omega)))
  ((have hji9l : 0 ≤ ji9 := by (rw [← hji9]; unfold mn; (repeat' split) <;> omega)))
  ((have hji9m : 0 ≤ ji9 := by omega))
  have hji9_ : (if 4097 < (l1_1.length : Int) then 4097 else (l1_1.length : Int)) = ji9 := hji9
  obtain rfl := Option.some.inj H
  go_enter Try.func34, Try.ntmps34
  go_wp2_with (((with_reducible refine gate_dst (N := 3) rfl ?_); refine box_event ?hg (N := 3) ?hd (cs := #[.int .i64 a1_0, .slice A1_1 l1_1.length c1_1, .slice A1_2 l1_2.length c1_2, .slice A1_3 l1_3.length c1_3, .slice A1_4 l1_4.length c1_4, .slice A1_5 l1_5.length c1_5]) (t := 33) ?hr ?_; (case hd => rfl); (case hg => rfl); (case hr => (go_simp; done)); intro gb223 hg w10 hbox hb; have n0_ := Aside0.mk (below_step (HB.out) hb); have n1_ := Aside0.mk (hbox); have n2_ := Aside0.mk ((by rw [hg]; exact (below_size (HB.out)) : w.heap.size ≤ gb223)); have n3_ := Aside0.mk ((by rw [hg]; exact (below_size (HB.out)) : w.heap.size ≤ gb223)); clear HB; have HB := n0_; have BK223 := n1_; have GW223 := n2_; have GE223 := n3_; clear n0_ n1_ n2_ n3_; clear hb hbox hg; have hcz11_0 : w10.cell? ⟨gb223, 0, none⟩ = some (.int .i64 a1_0) := (blk_cell BK223.out 0).trans rfl; have hcz11_1 : w10.cell? ⟨gb223, 1, none⟩ = some (.slice A1_1 l1_1.length c1_1) := (blk_cell BK223.out 1).trans rfl; have hcz11_2 : w10.cell? ⟨gb223, 2, none⟩ = some (.slice A1_2 l1_2.length c1_2) := (blk_cell BK223.out 2).trans rfl; have hcz11_3 : w10.cell? ⟨gb223, 3, none⟩ = some (.slice A1_3 l1_3.length c1_3) := (blk_cell BK223.out 3).trans rfl; have hcz11_4 : w10.cell? ⟨gb223, 4, none⟩ = some (.slice A1_4 l1_4.length c1_4) := (blk_cell BK223.out 4).trans rfl; have hcz11_5 : w10.cell? ⟨gb223, 5, none⟩ = some (.slice A1_5 l1_5.length c1_5) := (blk_cell BK223.out 5).trans rfl; have hfz11_0 := blk_frozen BK223.out 0; have hfz11_1 := blk_frozen BK223.out 1; have hfz11_2 := blk_frozen BK223.out 2; have hfz11_3 := blk_frozen BK223.out 3; have hfz11_4 := blk_frozen BK223.out 4; have hfz11_5 := blk_frozen BK223.out 5))
  go_ret
  exact ⟨by rfl, HB.out⟩
 rw [if_neg c8] at H
 have c8b0 : (a1_0 == 2) = false := beq_eq_false_iff_ne.mpr c8
 have c8b1 : (a1_0 != 2) = true := bne_iff_ne.mpr c8
 by_cases c12 : a1_0 = 3
 ·rw [if_pos c12] at H
  have c12b0 : (a1_0 == 3) = true := beq_iff_eq.mpr c12
  have c12b1 : (a1_0 != 3) = false := bne_eq_false_iff_eq.mpr c12
  clear c12
  have H' := Aside0.mk H
  clear H
  go_enter Try.func34, Try.ntmps34
  go_wp2_with (((with_reducible refine gate_dst (N := 3) rfl ?_); refine box_event ?hg (N := 3) ?hd (cs := #[.int .i64 a1_0, .slice A1_1 l1_1.length c1_1, .slice A1_2 l1_2.length c1_2, .slice A1_3 l1_3.length c1_3, .slice A1_4 l1_4.length c1_4, .slice A1_5 l1_5.length c1_5]) (t := 33) ?hr ?_; (case hd => rfl); (case hg => rfl); (case hr => (go_simp; done)); intro gb223 hg w13 hbox hb; have n0_ := Aside0.mk (below_step (HB.out) hb); have n1_ := Aside0.mk (hbox); have n2_ := Aside0.mk ((by rw [hg]; exact (below_size (HB.out)) : w.heap.size ≤ gb223)); have n3_ := Aside0.mk ((by rw [hg]; exact (below_size (HB.out)) : w.heap.size ≤ gb223)); clear HB; have HB := n0_; have BK223 := n1_; have GW223 := n2_; have GE223 := n3_; clear n0_ n1_ n2_ n3_; clear hb hbox hg; have hcz14_0 : w13.cell? ⟨gb223, 0, none⟩ = some (.int .i64 a1_0) := (blk_cell BK223.out 0).trans rfl; have hcz14_1 : w13.cell? ⟨gb223, 1, none⟩ = some (.slice A1_1 l1_1.length c1_1) := (blk_cell BK223.out 1).trans rfl; have hcz14_2 : w13.cell? ⟨gb223, 2, none⟩ = some (.slice A1_2 l1_2.length c1_2) := (blk_cell BK223.out 2).trans rfl; have hcz14_3 : w13.cell? ⟨gb223, 3, none⟩ = some (.slice A1_3 l1_3.length c1_3) := (blk_cell BK223.out 3).trans rfl; have hcz14_4 : w13.cell? ⟨gb223, 4, none⟩ = some (.slice A1_4 l1_4.length c1_4) := (blk_cell BK223.out 4).trans rfl; have hcz14_5 : w13.cell? ⟨gb223, 5, none⟩ = some (.slice A1_5 l1_5.length c1_5) := (blk_cell BK223.out 5).trans rfl; have hfz14_0 := blk_frozen BK223.out 0; have hfz14_1 := blk_frozen BK223.out 1; have hfz14_2 := blk_frozen BK223.out 2; have hfz14_3 := blk_frozen BK223.out 3; have hfz14_4 := blk_frozen BK223.out 4; have hfz14_5 := blk_frozen BK223.out 5))
  go_loopg [6] k (fun kq v6 w' => ∃ (x6_1 : Int), v6 = .int .i64 x6_1 ∧ Aside0 (slabvaultref12_selected.l0 kq l0 1 x6_1 a1_0 l1_1 l1_2 l1_3 l1_4 l1_5 = some r) ∧ Aside0 (kq ≤ k) ∧ Aside0 (w'.heap[gb223]? = some (.cells #[.int .i64 a1_0, (.slice A1_1 l1_1.length c1_1), (.slice A1_2 l1_2.length c1_2), (.slice A1_3 l1_3.length c1_3), (.slice A1_4 l1_4.length c1_4), (.slice A1_5 l1_5.length c1_5)] 33 (0, 0))) ∧ Aside0 (Below w.heap.size w w'))
  case atStart => exact ⟨(0), (by rfl), H', ⟨Nat.le_refl _⟩, ⟨by (with_reducible repeat (first | refine blk_drewN ?_ _ | refine blk_drew ?_ | refine blk_alloc ?_ _)); exact BK223.out⟩, ⟨HB.out⟩⟩
  case round =>
   clear H' c3 c3b0 c3b1 c8 c8b0 c8b1 c12b0 c12b1 hcz14_0 hcz14_1 hcz14_2 hcz14_3 hcz14_4 hcz14_5 hfz14_0 hfz14_1 hfz14_2 hfz14_3 hfz14_4 hfz14_5
   obtain ⟨x6_1, rfl, HA, HK1, BK223, HB⟩ := hrel
   cases gk with
   | zero => exact absurd HA.out (by simp [slabvaultref12_selected.l0])
   | succ k1 =>
    have H := HA.out
    clear HA
    simp only [slabvaultref12_selected.l0] at H
    by_cases c15 : x6_1 < (l0.length : Int)
    ·rw [if_pos c15] at H
     have c15b0 : decide (x6_1 < (l0.length : Int)) = true := decide_eq_true c15
     clear c15
     by_cases c16 : 0 ≤ x6_1
     case neg => rw [if_neg c16] at H; exact absurd H (by simp)
     rw [if_pos c16] at H
     have c16b0 : decide (0 ≤ x6_1) = true := decide_eq_true c16
     clear c16
     by_cases c17 : x6_1 < (l1_4.length : Int)
     case neg => rw [if_neg c17] at H; exact absurd H (by simp)
     rw [if_pos c17] at H
     have c17b0 : decide (x6_1 < (l1_4.length : Int)) = true := decide_eq_true c17
     clear c17
     by_cases c18 : (rd l1_4 x6_1) = 0
     ·rw [if_pos c18] at H
      have c18b0 : ((rd l1_4 x6_1) == 0) = true := beq_iff_eq.mpr c18
      have c18b1 : ((rd l1_4 x6_1) != 0) = false := bne_eq_false_iff_eq.mpr c18
      clear c18
      obtain rfl := Option.some.inj H
      have hcz19_0 : wr.cell? ⟨gb223, 0, none⟩ = some (.int .i64 a1_0) := (blk_cell BK223.out 0).trans rfl
      have hcz19_1 : wr.cell? ⟨gb223, 1, none⟩ = some (.slice A1_1 l1_1.length c1_1) := (blk_cell BK223.out 1).trans rfl
      have hcz19_2 : wr.cell? ⟨gb223, 2, none⟩ = some (.slice A1_2 l1_2.length c1_2) := (blk_cell BK223.out 2).trans rfl
      have hcz19_3 : wr.cell? ⟨gb223, 3, none⟩ = some (.slice A1_3 l1_3.length c1_3) := (blk_cell BK223.out 3).trans rfl
      have hcz19_4 : wr.cell? ⟨gb223, 4, none⟩ = some (.slice A1_4 l1_4.length c1_4) := (blk_cell BK223.out 4).trans rfl
      have hcz19_5 : wr.cell? ⟨gb223, 5, none⟩ = some (.slice A1_5 l1_5.length c1_5) := (blk_cell BK223.out 5).trans rfl
      have hfz19_0 := blk_frozen BK223.out 0
      have hfz19_1 := blk_frozen BK223.out 1
      have hfz19_2 := blk_frozen BK223.out 2
      have hfz19_3 := blk_frozen BK223.out 3
      have hfz19_4 := blk_frozen BK223.out 4
      have hfz19_5 := blk_frozen BK223.out 5
      have p226 : 0 ≤ (x6_1 : Int) := of_decide_eq_true (by (with_reducible assumption))
      have q226 : x6_1 < (l1_4.length : Int) := of_decide_eq_true (by (with_reducible assumption))
      obtain ⟨ad226, e226, hx226_0⟩ := Kd.at_int HR1_4.out x6_1 p226 q226
      cases e226
      replace hx226_0 := (HB.out.cell (World.block_lt_of_cell? w _ hx226_0)).trans hx226_0
      replace p226 := eq_true p226
      replace q226 := eq_true q226
      go_wp2
      go_ret
      exact ⟨by rfl, HB.out⟩
     rw [if_neg c18] at H
     have c18b0 : ((rd l1_4 x6_1) == 0) = false := beq_eq_false_iff_ne.mpr c18
     have c18b1 : ((rd l1_4 x6_1) != 0) = true := bne_iff_ne.mpr c18
     by_cases c20 : x6_1 < (l1_5.length : Int)
     case neg => rw [if_neg c20] at H; exact absurd H (by simp)
     rw [if_pos c20] at H
     have c20b0 : decide (x6_1 < (l1_5.length : Int)) = true := decide_eq_true c20
     clear c20
     by_cases c21 : (rd l1_5 x6_1) = 0
     ·rw [if_pos c21] at H
      have c21b0 : ((rd l1_5 x6_1) == 0) = true := beq_iff_eq.mpr c21
      have c21b1 : ((rd l1_5 x6_1) != 0) = false := bne_eq_false_iff_eq.mpr c21
      clear c21
      obtain rfl := Option.some.inj H
      have hcz22_0 : wr.cell? ⟨gb223, 0, none⟩ = some (.int .i64 a1_0) := (blk_cell BK223.out 0).trans rfl
      have hcz22_1 : wr.cell? ⟨gb223, 1, none⟩ = some (.slice A1_1 l1_1.length c1_1) := (blk_cell BK223.out 1).trans rfl
      have hcz22_2 : wr.cell? ⟨gb223, 2, none⟩ = some (.slice A1_2 l1_2.length c1_2) := (blk_cell BK223.out 2).trans rfl
      have hcz22_3 : wr.cell? ⟨gb223, 3, none⟩ = some (.slice A1_3 l1_3.length c1_3) := (blk_cell BK223.out 3).trans rfl
      have hcz22_4 : wr.cell? ⟨gb223, 4, none⟩ = some (.slice A1_4 l1_4.length c1_4) := (blk_cell BK223.out 4).trans rfl
      have hcz22_5 : wr.cell? ⟨gb223, 5, none⟩ = some (.slice A1_5 l1_5.length c1_5) := (blk_cell BK223.out 5).trans rfl
      have hfz22_0 := blk_frozen BK223.out 0
      have hfz22_1 := blk_frozen BK223.out 1
      have hfz22_2 := blk_frozen BK223.out 2
      have hfz22_3 := blk_frozen BK223.out 3
      have hfz22_4 := blk_frozen BK223.out 4
      have hfz22_5 := blk_frozen BK223.out 5
      have p226 : 0 ≤ (x6_1 : Int) := of_decide_eq_true (by (with_reducible assumption))
      have q226 : x6_1 < (l1_4.length : Int) := of_decide_eq_true (by (with_reducible assumption))
      obtain ⟨ad226, e226, hx226_0⟩ := Kd.at_int HR1_4.out x6_1 p226 q226
      cases e226
      replace hx226_0 := (HB.out.cell (World.block_lt_of_cell? w _ hx226_0)).trans hx226_0
      replace p226 := eq_true p226
      replace q226 := eq_true q226
      have p227 : 0 ≤ (x6_1 : Int) := of_decide_eq_true (by (with_reducible assumption))
      have q227 : x6_1 < (l1_5.length : Int) := of_decide_eq_true (by (with_reducible assumption))
      obtain ⟨ad227, e227, hx227_0⟩ := Kd.at_int HR1_5.out x6_1 p227 q227
      cases e227
      replace hx227_0 := (HB.out.cell (World.block_lt_of_cell? w _ hx227_0)).trans hx227_0
      replace p227 := eq_true p227
      replace q227 := eq_true q227
      go_wp2
      go_ret
      exact ⟨by rfl, HB.out⟩
     rw [if_neg c21] at H
     have c21b0 : ((rd l1_5 x6_1) == 0) = false := beq_eq_false_iff_ne.mpr c21
     have c21b1 : ((rd l1_5 x6_1) != 0) = true := bne_iff_ne.mpr c21
     have H' := Aside0.mk H
     clear H
     have hcz23_0 : wr.cell? ⟨gb223, 0, none⟩ = some (.int .i64 a1_0) := (blk_cell BK223.out 0).trans rfl
     have hcz23_1 : wr.cell? ⟨gb223, 1, none⟩ = some (.slice A1_1 l1_1.length c1_1) := (blk_cell BK223.out 1).trans rfl
     have hcz23_2 : wr.cell? ⟨gb223, 2, none⟩ = some (.slice A1_2 l1_2.length c1_2) := (blk_cell BK223.out 2).trans rfl
     have hcz23_3 : wr.cell? ⟨gb223, 3, none⟩ = some (.slice A1_3 l1_3.length c1_3) := (blk_cell BK223.out 3).trans rfl
     have hcz23_4 : wr.cell? ⟨gb223, 4, none⟩ = some (.slice A1_4 l1_4.length c1_4) := (blk_cell BK223.out 4).trans rfl
     have hcz23_5 : wr.cell? ⟨gb223, 5, none⟩ = some (.slice A1_5 l1_5.length c1_5) := (blk_cell BK223.out 5).trans rfl
     have hfz23_0 := blk_frozen BK223.out 0
     have hfz23_1 := blk_frozen BK223.out 1
     have hfz23_2 := blk_frozen BK223.out 2
     have hfz23_3 := blk_frozen BK223.out 3
     have hfz23_4 := blk_frozen BK223.out 4
     have hfz23_5 := blk_frozen BK223.out 5
     have p226 : 0 ≤ (x6_1 : Int) := of_decide_eq_true (by (with_reducible assumption))
     have q226 : x6_1 < (l1_4.length : Int) := of_decide_eq_true (by (with_reducible assumption))
     obtain ⟨ad226, e226, hx226_0⟩ := Kd.at_int HR1_4.out x6_1 p226 q226
     cases e226
     replace hx226_0 := (HB.out.cell (World.block_lt_of_cell? w _ hx226_0)).trans hx226_0
     replace p226 := eq_true p226
     replace q226 := eq_true q226
     have p227 : 0 ≤ (x6_1 : Int) := of_decide_eq_true (by (with_reducible assumption))
     have q227 : x6_1 < (l1_5.length : Int) := of_decide_eq_true (by (with_reducible assumption))
     obtain ⟨ad227, e227, hx227_0⟩ := Kd.at_int HR1_5.out x6_1 p227 q227
     cases e227
     replace hx227_0 := (HB.out.cell (World.block_lt_of_cell? w _ hx227_0)).trans hx227_0
     replace p227 := eq_true p227
     replace q227 := eq_true q227
     go_wp2
     go_roundg k1
     case measure => have := HK1.out; omega
     case rel => exact ⟨(wrap64 (x6_1 + 1)), (by rfl), H', ⟨by have := HK1.out; omega⟩, ⟨by (with_reducible repeat (first | refine blk_drewN ?_ _ | refine blk_drew ?_ | refine blk_alloc ?_ _)); exact BK223.out⟩, ⟨HB.out⟩⟩
    rw [if_neg c15] at H
    have c15b0 : decide (x6_1 < (l0.length : Int)) = false := decide_eq_false c15
    clear c15
    have H' := Aside0.mk H
    clear H
    go_wp2
    go_loopg [5, 7] k1 (fun kq v5 v7 w' => ∃ (x5_2 : Int) (x7_2 : Int), v5 = .int .i64 x5_2 ∧ v7 = .int .i64 x7_2 ∧ Aside0 (slabvaultref12_selected.l1 kq l0 x5_2 x7_2 a1_0 l1_1 l1_2 l1_3 l1_4 l1_5 = some r) ∧ Aside0 (kq ≤ k1) ∧ Aside0 (w'.heap[gb223]? = some (.cells #[.int .i64 a1_0, (.slice A1_1 l1_1.length c1_1), (.slice A1_2 l1_2.length c1_2), (.slice A1_3 l1_3.length c1_3), (.slice A1_4 l1_4.length c1_4), (.slice A1_5 l1_5.length c1_5)] 33 (0, 0))) ∧ Aside0 (Below w.heap.size w w'))
    case atStart => exact ⟨(1), (0), (by rfl), (by rfl), H', ⟨Nat.le_refl _⟩, ⟨by (with_reducible repeat (first | refine blk_drewN ?_ _ | refine blk_drew ?_ | refine blk_alloc ?_ _)); exact BK223.out⟩, ⟨HB.out⟩⟩
    case round =>
     clear H' c15b0
     obtain ⟨x5_2, x7_2, rfl, rfl, HA, HK2, BK223, HB⟩ := hrel
     cases gk with
     | zero => exact absurd HA.out (by simp [slabvaultref12_selected.l1])
     | succ k2 =>
      have H := HA.out
      clear HA
      simp only [slabvaultref12_selected.l1] at H
      by_cases c24 : x7_2 < (l0.length : Int)
      ·rw [if_pos c24] at H
       have c24b0 : decide (x7_2 < (l0.length : Int)) = true := decide_eq_true c24
       clear c24
       by_cases c25 : 0 ≤ x7_2
       case neg => rw [if_neg c25] at H; exact absurd H (by simp)
       rw [if_pos c25] at H
       have c25b0 : decide (0 ≤ x7_2) = true := decide_eq_true c25
       clear c25
       by_cases c26 : x7_2 < (l1_4.length : Int)
       case neg => rw [if_neg c26] at H; exact absurd H (by simp)
       rw [if_pos c26] at H
       have c26b0 : decide (x7_2 < (l1_4.length : Int)) = true := decide_eq_true c26
       clear c26
       by_cases c27 : x7_2 < (l1_5.length : Int)
       case neg => rw [if_neg c27] at H; exact absurd H (by simp)
       rw [if_pos c27] at H
       have c27b0 : decide (x7_2 < (l1_5.length : Int)) = true := decide_eq_true c27
       clear c27
       replace H := Option.bind_eq_some_iff.mp H
       obtain ⟨t230, A280, H⟩ := H
       replace H : ((slabvaultref12_product.f k2 x5_2 t230).bind fun t231 => (slabvaultref12_selected.l1 k2 l0 t231 (wrap64 (x7_2 + 1)) a1_0 l1_1 l1_2 l1_3 l1_4 l1_5)) = some r := H
       have A28 := Aside0.mk A280
       clear A280
       replace H := Option.bind_eq_some_iff.mp H
       obtain ⟨t231, A290, H⟩ := H
       replace H : (slabvaultref12_selected.l1 k2 l0 t231 (wrap64 (x7_2 + 1)) a1_0 l1_1 l1_2 l1_3 l1_4 l1_5) = some r := H
       have A29 := Aside0.mk A290
       clear A290
       have H' := Aside0.mk H
       clear H
       go_wp2
       have n0_ := Aside0.mk (blk_drew BK223.out)
       have n1_ := Aside0.mk (below_drew1 HB.out)
       clear BK223 HB
       have BK223 := n0_
       have HB := n1_
       clear n0_ n1_
       have p228 : 0 ≤ (x7_2 : Int) := of_decide_eq_true (by (with_reducible assumption))
       have q228 : x7_2 < (l1_4.length : Int) := of_decide_eq_true (by (with_reducible assumption))
       obtain ⟨ad228, e228, hx228_0⟩ := Kd.at_int HR1_4.out x7_2 p228 q228
       have hw228_0 := hx228_0
       cases e228
       replace hx228_0 := (HB.out.cell (World.block_lt_of_cell? w _ hx228_0)).trans hx228_0
       replace p228 := eq_true p228
       replace q228 := eq_true q228
       have p229 : 0 ≤ (x7_2 : Int) := of_decide_eq_true (by (with_reducible assumption))
       have q229 : x7_2 < (l1_5.length : Int) := of_decide_eq_true (by (with_reducible assumption))
       obtain ⟨ad229, e229, hx229_0⟩ := Kd.at_int HR1_5.out x7_2 p229 q229
       have hw229_0 := hx229_0
       cases e229
       replace hx229_0 := (HB.out.cell (World.block_lt_of_cell? w _ hx229_0)).trans hx229_0
       replace p229 := eq_true p229
       replace q229 := eq_true q229
       refine start_ (n := 14) (S := fun w' => w'.cell? ⟨gb223, 0, none⟩ = some (.int .i64 a1_0) ∧ w'.cell? ⟨gb223, 1, none⟩ = some (.slice A1_1 l1_1.length c1_1) ∧ w'.cell? ⟨gb223, 2, none⟩ = some (.slice A1_2 l1_2.length c1_2) ∧ w'.cell? ⟨gb223, 3, none⟩ = some (.slice A1_3 l1_3.length c1_3) ∧ w'.cell? ⟨gb223, 4, none⟩ = some (.slice (some ad228) l1_4.length c1_4) ∧ w'.cell? ⟨gb223, 5, none⟩ = some (.slice (some ad229) l1_5.length c1_5) ∧ w'.cell? (ad228.add (x7_2).toNat) = some (.int .i64 (rd l1_4 x7_2)) ∧ w'.cell? (ad229.add (x7_2).toNat) = some (.int .i64 (rd l1_5 x7_2))) (ds := []) #[false, false, false, false, false, false, false, false, false, false, false, false, false, false] (by kernel_rfl) rfl rfl ⟨(blk_cell BK223.out 0).trans rfl, (blk_cell BK223.out 1).trans rfl, (blk_cell BK223.out 2).trans rfl, (blk_cell BK223.out 3).trans rfl, (blk_cell BK223.out 4).trans rfl, (blk_cell BK223.out 5).trans rfl, ((HB.out.cell (World.block_lt_of_cell? w _ hw228_0)).trans hw228_0), ((HB.out.cell (World.block_lt_of_cell? w _ hw229_0)).trans hw229_0)⟩ (fun hHeld => ?_); refine with_tabW slabvaultref12_selected.tab16 slabvaultref12_selected.bits16 (fun HT_ HW_ => ?_)
       generalize wr.drew = w30 at BK223 HB hx228_0 hx229_0 hHeld ⊢
       refine pure_ (i := 0) (N := some 50) (v := ?_) (a' := ?_) #[true, false, false, false, false, false, false, false, false, false, false, false, false, false] rfl rfl (any_of HT_.out (by kernel_rfl)) (fun _ _ _ h => h) (Or.inl ⟨by rfl, ?_⟩) ?_ ?_
       rotate_left
       ·intro w'
        go_simp
        with_reducible rfl
       rotate_left
       ·simp only [Act.put, List.setIfInBounds_toArray, List.set_cons_zero, List.set_cons_succ, i64_w, i32_w]
        rfl
       refine pure_ (i := 1) (N := some 51) (v := ?_) (a' := ?_) #[true, true, false, false, false, false, false, false, false, false, false, false, false, false] rfl rfl (any_of HT_.out (by kernel_rfl)) (fun _ _ _ h => h) (Or.inl ⟨by rfl, ?_⟩) ?_ ?_
       rotate_left
       ·intro w'
        go_simp
        with_reducible rfl
       rotate_left
       ·simp only [Act.put, List.setIfInBounds_toArray, List.set_cons_zero, List.set_cons_succ, i64_w, i32_w]
        rfl
       refine pure_ (i := 3) (N := some 53) (v := ?_) (a' := ?_) #[true, true, false, true, false, false, false, false, false, false, false, false, false, false] rfl rfl (any_of HT_.out (by kernel_rfl)) (fun _ _ _ h => h) (Or.inl ⟨by rfl, ?_⟩) ?_ ?_
       rotate_left
       ·intro w'
        go_simp
        with_reducible rfl
       rotate_left
       ·simp only [Act.put, List.setIfInBounds_toArray, List.set_cons_zero, List.set_cons_succ, i64_w, i32_w]
        rfl
       refine pure_ (i := 6) (N := some 56) (v := ?_) (a' := ?_) #[true, true, false, true, false, false, true, false, false, false, false, false, false, false] rfl rfl (any_of HT_.out (by kernel_rfl)) (fun _ _ _ h => h) (Or.inl ⟨by rfl, ?_⟩) ?_ ?_
       rotate_left
       ·intro w'
        go_simp
        with_reducible rfl
       rotate_left
       ·simp only [Act.put, List.setIfInBounds_toArray, List.set_cons_zero, List.set_cons_succ, i64_w, i32_w]
        rfl
       refine pure_ (i := 8) (N := some 58) (v := ?_) (a' := ?_) #[true, true, false, true, false, false, true, false, true, false, false, false, false, false] rfl rfl (any_of HT_.out (by kernel_rfl)) (fun _ _ _ h => h) (Or.inl ⟨by rfl, ?_⟩) ?_ ?_
       rotate_left
       ·intro w'
        go_simp
        with_reducible rfl
       rotate_left
       ·simp only [Act.put, List.setIfInBounds_toArray, List.set_cons_zero, List.set_cons_succ, i64_w, i32_w]
        rfl
       refine take_ (i := 2) (N := some 52) (v := ?_) (a' := ?_) #[true, true, true, true, false, false, true, false, true, false, false, false, false, false] rfl rfl (take_ofW HT_.out HW_.out (by kernel_rfl)) (fun _ _ _ h => h) (Or.inl ⟨by rfl, ?_⟩) hHeld ?_ ?_
       rotate_left
       ·rintro w' ⟨s0, s1, s2, s3, s4, s5, s6, s7⟩
        go_simp
        with_reducible rfl
       rotate_left
       ·simp only [Act.put, List.setIfInBounds_toArray, List.set_cons_zero, List.set_cons_succ, i64_w, i32_w]
        rfl
       refine pure_ (i := 4) (N := some 54) (v := ?_) (a' := ?_) #[true, true, true, true, true, false, true, false, true, false, false, false, false, false] rfl rfl (any_of HT_.out (by kernel_rfl)) (fun _ _ _ h => h) (Or.inl ⟨by rfl, ?_⟩) ?_ ?_
       rotate_left
       ·intro w'
        go_simp
        with_reducible rfl
       rotate_left
       ·simp only [Act.put, List.setIfInBounds_toArray, List.set_cons_zero, List.set_cons_succ, i64_w, i32_w]
        rfl
       refine take_ (i := 5) (N := some 55) (v := ?_) (a' := ?_) #[true, true, true, true, true, true, true, false, true, false, false, false, false, false] rfl rfl (take_ofW HT_.out HW_.out (by kernel_rfl)) (fun _ _ _ h => h) (Or.inl ⟨by rfl, ?_⟩) hHeld ?_ ?_
       rotate_left
       ·rintro w' ⟨s0, s1, s2, s3, s4, s5, s6, s7⟩
        go_simp
        with_reducible rfl
       rotate_left
       ·simp only [Act.put, List.setIfInBounds_toArray, List.set_cons_zero, List.set_cons_succ, i64_w, i32_w]
        rfl
       refine take_ (i := 7) (N := some 57) (v := ?_) (a' := ?_) #[true, true, true, true, true, true, true, true, true, false, false, false, false, false] rfl rfl (take_ofW HT_.out HW_.out (by kernel_rfl)) (fun _ _ _ h => h) (Or.inl ⟨by rfl, ?_⟩) hHeld ?_ ?_
       rotate_left
       ·rintro w' ⟨s0, s1, s2, s3, s4, s5, s6, s7⟩
        go_simp
        with_reducible rfl
       rotate_left
       ·simp only [Act.put, List.setIfInBounds_toArray, List.set_cons_zero, List.set_cons_succ, i64_w, i32_w]
        rfl
       refine pure_ (i := 9) (N := some 59) (v := ?_) (a' := ?_) #[true, true, true, true, true, true, true, true, true, true, false, false, false, false] rfl rfl (any_of HT_.out (by kernel_rfl)) (fun _ _ _ h => h) (Or.inl ⟨by rfl, ?_⟩) ?_ ?_
       rotate_left
       ·intro w'
        go_simp
        with_reducible rfl
       rotate_left
       ·simp only [Act.put, List.setIfInBounds_toArray, List.set_cons_zero, List.set_cons_succ, i64_w, i32_w]
        rfl
       refine take_ (i := 10) (N := some 60) (v := ?_) (a' := ?_) #[true, true, true, true, true, true, true, true, true, true, true, false, false, false] rfl rfl (take_ofW HT_.out HW_.out (by kernel_rfl)) (fun _ _ _ h => h) (Or.inl ⟨by rfl, ?_⟩) hHeld ?_ ?_
       rotate_left
       ·rintro w' ⟨s0, s1, s2, s3, s4, s5, s6, s7⟩
        go_simp
        with_reducible rfl
       rotate_left
       ·simp only [Act.put, List.setIfInBounds_toArray, List.set_cons_zero, List.set_cons_succ, i64_w, i32_w]
        rfl
       refine one_ (i := 11) (N := some 61) #[true, true, true, true, true, true, true, true, true, true, true, true, false, false] rfl rfl (one_of HT_.out (by kernel_rfl)) (by decide) (fun K hK => ?_)
       refine goes_ Try.func45 (by kernel_rfl) rfl #[.int .i64 (rd l1_4 x7_2), .int .i64 (rd l1_5 x7_2)] (by rfl) rfl rfl (by (simp only [List.map_toArray, List.map_cons, List.map_nil]); rfl) ?_
       with_reducible refine (slabvaultref12_product.calls k2 (rd l1_4 x7_2) (rd l1_5 x7_2) t230 _ A28.out).mono ?_
       rintro e w31 ⟨rfl, hb⟩
       refine ⟨_, rfl, ?_⟩
       have n0_ := Aside0.mk (blk_below (g := gb223) (o := .cells #[.int .i64 a1_0, .slice A1_1 l1_1.length c1_1, .slice A1_2 l1_2.length c1_2, .slice A1_3 l1_3.length c1_3, .slice (some ad228) l1_4.length c1_4, .slice (some ad229) l1_5.length c1_5] 33 (0, 0)) (by exact BK223.out) hb)
       have n1_ := Aside0.mk (below_step (HB.out) hb)
       clear BK223 HB
       have BK223 := n0_
       have HB := n1_
       clear n0_ n1_ hb
       refine hK.out _ _ ⟨(blk_cell BK223.out 0).trans rfl, (blk_cell BK223.out 1).trans rfl, (blk_cell BK223.out 2).trans rfl, (blk_cell BK223.out 3).trans rfl, (blk_cell BK223.out 4).trans rfl, (blk_cell BK223.out 5).trans rfl, ((HB.out.cell (World.block_lt_of_cell? w _ hw228_0)).trans hw228_0), ((HB.out.cell (World.block_lt_of_cell? w _ hw229_0)).trans hw229_0)⟩ (fun hHeld => ?_)
       clear hK K
       refine norm_ (a' := ?_) ?_ ?_
       rotate_left
       ·show Act.put _ (some 61) _ = _
        simp only [Act.put, List.setIfInBounds_toArray, List.set_cons_zero, List.set_cons_succ, i64_w, i32_w]
        rfl
       refine one_ (i := 12) (N := some 62) #[true, true, true, true, true, true, true, true, true, true, true, true, true, false] rfl rfl (one_of HT_.out (by kernel_rfl)) (by decide) (fun K hK => ?_)
       refine goes_ Try.func45 (by kernel_rfl) rfl #[.int .i64 x5_2, .int .i64 t230] (by rfl) rfl rfl (by (simp only [List.map_toArray, List.map_cons, List.map_nil]); rfl) ?_
       with_reducible refine (slabvaultref12_product.calls k2 x5_2 t230 t231 _ A29.out).mono ?_
       rintro e w32 ⟨rfl, hb⟩
       refine ⟨_, rfl, ?_⟩
       have n0_ := Aside0.mk (blk_below (g := gb223) (o := .cells #[.int .i64 a1_0, .slice A1_1 l1_1.length c1_1, .slice A1_2 l1_2.length c1_2, .slice A1_3 l1_3.length c1_3, .slice (some ad228) l1_4.length c1_4, .slice (some ad229) l1_5.length c1_5] 33 (0, 0)) (by exact BK223.out) hb)
       have n1_ := Aside0.mk (below_step (HB.out) hb)
       clear BK223 HB
       have BK223 := n0_
       have HB := n1_
       clear n0_ n1_ hb
       refine hK.out _ _ ⟨(blk_cell BK223.out 0).trans rfl, (blk_cell BK223.out 1).trans rfl, (blk_cell BK223.out 2).trans rfl, (blk_cell BK223.out 3).trans rfl, (blk_cell BK223.out 4).trans rfl, (blk_cell BK223.out 5).trans rfl, ((HB.out.cell (World.block_lt_of_cell? w _ hw228_0)).trans hw228_0), ((HB.out.cell (World.block_lt_of_cell? w _ hw229_0)).trans hw229_0)⟩ (fun hHeld => ?_)
       clear hK K
       refine norm_ (a' := ?_) ?_ ?_
       rotate_left
       ·show Act.put _ (some 62) _ = _
        simp only [Act.put, List.setIfInBounds_toArray, List.set_cons_zero, List.set_cons_succ, i64_w, i32_w]
        rfl
       refine pure_ (i := 13) (N := some 5) (v := ?_) (a' := ?_) #[true, true, true, true, true, true, true, true, true, true, true, true, true, true] rfl rfl (any_of HT_.out (by kernel_rfl)) (fun _ _ _ h => h) (Or.inl ⟨by rfl, ?_⟩) ?_ ?_
       rotate_left
       ·intro w'
        go_simp
        with_reducible rfl
       rotate_left
       ·simp only [Act.put, List.setIfInBounds_toArray, List.set_cons_zero, List.set_cons_succ, i64_w, i32_w]
        rfl
       refine done_ (done_of HT_.out (by kernel_rfl)) ?_
       go_wp2
       go_roundg k2
       case measure => have := HK1.out; have := HK2.out; omega
       case rel => exact ⟨(t231), (wrap64 (x7_2 + 1)), (by rfl), (by rfl), H', ⟨by have := HK1.out; have := HK2.out; omega⟩, ⟨by (with_reducible repeat (first | refine blk_drewN ?_ _ | refine blk_drew ?_ | refine blk_alloc ?_ _)); exact BK223.out⟩, ⟨HB.out⟩⟩
      rw [if_neg c24] at H
      have c24b0 : decide (x7_2 < (l0.length : Int)) = false := decide_eq_false c24
      clear c24
      obtain ⟨ji33, hji33⟩ : ∃ j_ : Int, (mn x5_2 4097) = j_ := ⟨_, rfl⟩
      replace H : (some ji33) = some r := by (rw [hji33] at H; exact H)
      have hji33_ : (if 4097 < x5_2 then 4097 else x5_2) = ji33 := hji33
      obtain rfl := Option.some.inj H
      go_wp2
      go_ret
      exact ⟨by rfl, HB.out⟩
 rw [if_neg c12] at H
 have c12b0 : (a1_0 == 3) = false := beq_eq_false_iff_ne.mpr c12
 have c12b1 : (a1_0 != 3) = true := bne_iff_ne.mpr c12
 obtain ⟨ji34, hji34⟩ : ∃ j_ : Int, (mn 1 4097) = j_ := ⟨_, rfl⟩
 replace H : (some ji34) = some r := by (rw [hji34] at H; exact H)
 ((have hji34h : ji34 ≤ 1 := by (rw [← hji34]; unfold mn; (repeat' split) <;> omega)))
 ((have hji34g : ji34 ≤ 64 := by omega))
 ((have hji34l : 1 ≤ ji34 := by (rw [← hji34]; unfold mn; (repeat' split) <;> omega)))
 ((have hji34m : 0 ≤ ji34 := by omega))
 have hji34_ : (if 4097 < 1 then 4097 else 1) = ji34 := hji34
 obtain rfl := Option.some.inj H
 go_enter Try.func34, Try.ntmps34
 go_wp2_with (((with_reducible refine gate_dst (N := 3) rfl ?_); refine box_event ?hg (N := 3) ?hd (cs := #[.int .i64 a1_0, .slice A1_1 l1_1.length c1_1, .slice A1_2 l1_2.length c1_2, .slice A1_3 l1_3.length c1_3, .slice A1_4 l1_4.length c1_4, .slice A1_5 l1_5.length c1_5]) (t := 33) ?hr ?_; (case hd => rfl); (case hg => rfl); (case hr => (go_simp; done)); intro gb223 hg w35 hbox hb; have n0_ := Aside0.mk (below_step (HB.out) hb); have n1_ := Aside0.mk (hbox); have n2_ := Aside0.mk ((by rw [hg]; exact (below_size (HB.out)) : w.heap.size ≤ gb223)); have n3_ := Aside0.mk ((by rw [hg]; exact (below_size (HB.out)) : w.heap.size ≤ gb223)); clear HB; have HB := n0_; have BK223 := n1_; have GW223 := n2_; have GE223 := n3_; clear n0_ n1_ n2_ n3_; clear hb hbox hg; have hcz36_0 : w35.cell? ⟨gb223, 0, none⟩ = some (.int .i64 a1_0) := (blk_cell BK223.out 0).trans rfl; have hcz36_1 : w35.cell? ⟨gb223, 1, none⟩ = some (.slice A1_1 l1_1.length c1_1) := (blk_cell BK223.out 1).trans rfl; have hcz36_2 : w35.cell? ⟨gb223, 2, none⟩ = some (.slice A1_2 l1_2.length c1_2) := (blk_cell BK223.out 2).trans rfl; have hcz36_3 : w35.cell? ⟨gb223, 3, none⟩ = some (.slice A1_3 l1_3.length c1_3) := (blk_cell BK223.out 3).trans rfl; have hcz36_4 : w35.cell? ⟨gb223, 4, none⟩ = some (.slice A1_4 l1_4.length c1_4) := (blk_cell BK223.out 4).trans rfl; have hcz36_5 : w35.cell? ⟨gb223, 5, none⟩ = some (.slice A1_5 l1_5.length c1_5) := (blk_cell BK223.out 5).trans rfl; have hfz36_0 := blk_frozen BK223.out 0; have hfz36_1 := blk_frozen BK223.out 1; have hfz36_2 := blk_frozen BK223.out 2; have hfz36_3 := blk_frozen BK223.out 3; have hfz36_4 := blk_frozen BK223.out 4; have hfz36_5 := blk_frozen BK223.out 5))
 go_ret
 exact ⟨by (simp only [← hji34]; rfl), HB.out⟩
end Go.Proofs.Ytjbjofmcmjojlaa.Wk
end
section
namespace Go.Proofs.Ytjbjofmcmjojlaa.Wk
open Go.RowKit Go.Proofs.YtjbjofmcmjojlaaW.PrintWords Go.Proofs.YtjbjofmcmjojlaaW.PrintLast Go.Proofs.YtjbjofmcmjojlaaW.PrintMore
attribute [local go_sem] max2_int min2_int max_two min_two max_three min_three max_four min_four
set_option linter.unusedVariables false
set_option linter.unusedSimpArgs false
def slabvaultref12_right.l0 : Nat → List Int → Int → Int → Option (Bool)
  | 0, _, _, _ => none
  | k + 1, x0, x1, x5 => if x5 < x1 then (if 0 ≤ x5 then (if x5 < (x0.length : Int) then (if (rd x0 x5) < 0 then (some false) else (slabvaultref12_right.l0 k x0 x1 (wrap64 (x5 + 1)))) else (none)) else (none)) else (some true)
def slabvaultref12_right.f (k : Nat) (l0 : List Int) (a1 : Int) : Option (Bool) := if (l0.length : Int) = a1 then (slabvaultref12_right.l0 k l0 a1 0) else (some false)
set_option maxHeartbeats 8000000 in
set_option maxRecDepth 100000 in
theorem slabvaultref12_right.calls (k : Nat) (A0 : Option Addr) (c0 : Nat) (l0 : List Int) (a1 : Int) (r : Bool) (w : World) (hr0 : Kd.C (Kd.int .i64) w A0 l0.length l0) (hc0 : l0.length ≤ c0) (h : slabvaultref12_right.f k l0 a1 = some r) :
    Calls Try.prog 44 #[.slice A0 l0.length c0, .int .i64 a1] w fun e w' => e = .returned (.bool r) ∧ Drawn0 w w' := by
  have HR0 := Aside0.mk hr0
  have HC0 := Aside0.mk hc0
  clear hr0 hc0
  have H : (if (l0.length : Int) = a1 then (slabvaultref12_right.l0 k l0 a1 0) else (some false)) = some r := h
  clear h
  by_cases c3 : (l0.length : Int) = a1
  · rw [if_pos c3] at H
    have c3b0 : ((l0.length : Int) == a1) = true := beq_iff_eq.mpr c3
    have c3b1 : ((l0.length : Int) != a1) = false := bne_eq_false_iff_eq.mpr c3
    clear c3
    have H' := Aside0.mk H
    clear H
    go_enter Try.func44, Try.ntmps44
    go_wp2
    go_loopg [5] k (fun kq v5 w' => ∃ (x5_1 : Int), v5 = .int .i64 x5_1 ∧ Aside0 (slabvaultref12_right.l0 kq l0 a1 x5_1 = some r) ∧ Aside0 (kq ≤ k) ∧ Drawn0 w w')
    case atStart => exact ⟨(0), (by first | rfl | (simp; done) | (simp [*]; done)), H', ⟨Nat.le_refl _⟩, by repeat (first | exact Drawn0.refl _ | apply Drawn0.step)⟩
    case round =>
      clear H'
      try clear p2
      try clear c3
      try clear c3b0
      try clear c3b1
      obtain ⟨x5_1, rfl, HA, HK1, ⟨m1, rfl⟩⟩ := hrel
      cases gk with
      | zero => exact absurd HA.out (by simp [slabvaultref12_right.l0])
      | succ k1 =>
        have H := HA.out
        clear HA
        simp only [slabvaultref12_right.l0] at H
        by_cases c4 : x5_1 < a1
        · rw [if_pos c4] at H
          have c4b0 : decide (x5_1 < a1) = true := decide_eq_true c4
          clear c4
          by_cases c5 : 0 ≤ x5_1
          · rw [if_pos c5] at H
            have c5b0 : decide (0 ≤ x5_1) = true := decide_eq_true c5
            clear c5
            by_cases c6 : x5_1 < (l0.length : Int)
            · rw [if_pos c6] at H
              have c6b0 : decide (x5_1 < (l0.length : Int)) = true := decide_eq_true c6
              clear c6
              by_cases c7 : (rd l0 x5_1) < 0
              · rw [if_pos c7] at H
                have c7b0 : decide ((rd l0 x5_1) < 0) = true := decide_eq_true c7
                clear c7
                obtain rfl := Option.some.inj H
                have p215 : 0 ≤ (x5_1 : Int) := of_decide_eq_true (by first | (with_reducible assumption) | assumption)
                have q215 : x5_1 < (l0.length : Int) := of_decide_eq_true (by first | (with_reducible assumption) | assumption)
                obtain ⟨ad215, e215, hx215_0⟩ := Kd.at_int HR0.out x5_1 p215 q215
                cases e215
                replace p215 := eq_true p215
                replace q215 := eq_true q215
                go_wp2
                go_ret
                exact ⟨by first | rfl | (simp; done) | (simp [*]; done), by repeat (first | exact Drawn0.refl _ | apply Drawn0.step)⟩
              · rw [if_neg c7] at H
                have c7b0 : decide ((rd l0 x5_1) < 0) = false := decide_eq_false c7
                clear c7
                have H' := Aside0.mk H
                clear H
                have p215 : 0 ≤ (x5_1 : Int) := of_decide_eq_true (by first | (with_reducible assumption) | assumption)
                have q215 : x5_1 < (l0.length : Int) := of_decide_eq_true (by first | (with_reducible assumption) | assumption)
                obtain ⟨ad215, e215, hx215_0⟩ := Kd.at_int HR0.out x5_1 p215 q215
                cases e215
                replace p215 := eq_true p215
                replace q215 := eq_true q215
                go_wp2
                go_roundg k1
                case measure => have := HK1.out; omega
                case rel => exact ⟨(wrap64 (x5_1 + 1)), (by first | rfl | (simp; done) | (simp [*]; done)), H', ⟨by have := HK1.out; omega⟩, by repeat (first | exact Drawn0.refl _ | apply Drawn0.step)⟩
            · rw [if_neg c6] at H
              exact absurd H (by simp)
          · rw [if_neg c5] at H
            exact absurd H (by simp)
        · rw [if_neg c4] at H
          have c4b0 : decide (x5_1 < a1) = false := decide_eq_false c4
          clear c4
          obtain rfl := Option.some.inj H
          go_wp2
          go_ret
          exact ⟨by first | rfl | (simp; done) | (simp [*]; done), by repeat (first | exact Drawn0.refl _ | apply Drawn0.step)⟩
  · rw [if_neg c3] at H
    have c3b0 : ((l0.length : Int) == a1) = false := beq_eq_false_iff_ne.mpr c3
    have c3b1 : ((l0.length : Int) != a1) = true := bne_iff_ne.mpr c3
    obtain rfl := Option.some.inj H
    go_enter Try.func44, Try.ntmps44
    go_wp2
    go_ret
    exact ⟨by first | rfl | (simp; done) | (simp [*]; done), by repeat (first | exact Drawn0.refl _ | apply Drawn0.step)⟩
end Go.Proofs.Ytjbjofmcmjojlaa.Wk
end
