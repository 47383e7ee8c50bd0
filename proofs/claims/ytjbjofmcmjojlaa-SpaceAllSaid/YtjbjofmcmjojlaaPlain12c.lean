/- The tuples that a selection has, if it may be: how many there are, that they lie within the extent, and their places. -/
import Derived.Test.YtjbjofmcmjojlaaPlain12b
namespace Go.Proofs.Ytjbjofmcmjojlaa.Pure
open Go.RowKit Go.Proofs.Ytjbjofmcmjojlaa.Wk Go.Proofs.YtjbjofmcmjojlaaW.PrintWords Go.Proofs.YtjbjofmcmjojlaaW.PrintLast Go.Proofs.YtjbjofmcmjojlaaQ

def lprod (l : List Int) : Int := l.foldr (· * ·) 1
def nprod (l : List Nat) : Nat := l.foldr (· * ·) 1
theorem lprod_cons (a : Int) (l : List Int) : lprod (a :: l) = a * lprod l := rfl
theorem nprod_cons (a : Nat) (l : List Nat) : nprod (a :: l) = a * nprod l := rfl
theorem lprod_append (a b : List Int) : lprod (a ++ b) = lprod a * lprod b := by
  induction a with
  | nil => simp [lprod]
  | cons x a ih => rw [List.cons_append, lprod_cons, lprod_cons, ih, Int.mul_assoc]
theorem lex_length : ∀ N, (lexList N).length = nprod N
  | [] => rfl
  | n :: N => by
    rw [lexList, nprod_cons, List.length_flatMap]
    simp only [List.length_map, lex_length N]
    rw [List.map_const', List.length_range]
    simp [List.sum_replicate_nat]
theorem drop_rd (l : List Int) (i : Nat) (h : i < l.length) : l.drop i = rd l i :: l.drop (i + 1) := by rw [List.drop_eq_getElem_cons h, rd_nat l i h]
theorem prodLoop_ok (l : List Int) : ∀ (d i : Nat) (n p : Int), l.length - i = d → i ≤ l.length → prodLoop l d i n = (p, 0) → p = n * lprod (l.drop i)
  | 0, i, n, p, h, hi, e => by
    rw [List.drop_eq_nil_of_le (by omega)]
    simp only [prodLoop, Prod.mk.injEq] at e
    simp [lprod, e.1]
  | d + 1, i, n, p, h, hi, e => by
    simp only [prodLoop] at e
    split at e
    · simp at e
    · rw [drop_rd l i (by omega), lprod_cons, ← Int.mul_assoc]
      exact prodLoop_ok l d (i + 1) _ p (by omega) (by omega) e
theorem prodLoop_le (l : List Int) : ∀ (d i : Nat) (n p : Int) (e : Int), n ≤ 1048576 → prodLoop l d i n = (p, e) → p ≤ 1048576 ∧ (e = 0 ∨ e = 3)
  | 0, i, n, p, e, hn, h => by
    simp only [prodLoop, Prod.mk.injEq] at h
    omega
  | d + 1, i, n, p, e, hn, h => by
    simp only [prodLoop] at h
    split at h
    · simp only [Prod.mk.injEq] at h
      omega
    · exact prodLoop_le l d (i + 1) _ p e (by omega) h
theorem manyLoop_ok (l : List Int) : ∀ (d i : Nat) (n : Int), l.length - i = d → i ≤ l.length → manyLoop l d i n ≤ 4096 → manyLoop l d i n = n * lprod (l.drop i)
  | 0, i, n, h, hi, e => by
    rw [List.drop_eq_nil_of_le (by omega)]
    simp [lprod, manyLoop]
  | d + 1, i, n, h, hi, e => by
    simp only [manyLoop] at e ⊢
    split at e
    · omega
    · rename_i c
      rw [if_neg c, drop_rd l i (by omega), lprod_cons, ← Int.mul_assoc]
      exact manyLoop_ok l d (i + 1) _ (by omega) (by omega) e
theorem manyLoop_pos (l : List Int) (hp : ∀ i : Nat, i < l.length → 1 ≤ rd l i) : ∀ (d i : Nat) (n : Int), l.length - i = d → i ≤ l.length → 1 ≤ n → 1 ≤ manyLoop l d i n
  | 0, i, n, h, hi, hn => by simpa [manyLoop] using hn
  | d + 1, i, n, h, hi, hn => by
    simp only [manyLoop]
    split
    · omega
    · have h1 := hp i (by omega)
      have h2 : 1 * 1 ≤ n * rd l i := Int.mul_le_mul hn h1 (by omega) (by omega)
      exact manyLoop_pos l hp d (i + 1) _ (by omega) (by omega) (by omega)

/-- Tuples that lie within an extent. -/
def Within (l0 x : List Int) : Prop := x.length = l0.length ∧ ∀ d : Nat, d < l0.length → 0 ≤ rd x d ∧ rd x d < rd l0 d

theorem lex_mem : ∀ (N s : List Nat), s ∈ lexList N → s.length = N.length ∧ ∀ d, d < N.length → s.getD d 0 < N.getD d 0
  | [], s, h => by simp [lexList] at h; subst h; simp
  | n :: N, s, h => by
    simp only [lexList, List.mem_flatMap, List.mem_range, List.mem_map] at h
    obtain ⟨i, hi, t, ht, rfl⟩ := h
    obtain ⟨h1, h2⟩ := lex_mem N t ht
    refine ⟨by simp [h1], fun d hd => ?_⟩
    cases d with
    | zero => simpa using hi
    | succ d => simpa using h2 d (by simpa using hd)
theorem tupAt_length (av : Nat → Nat → Int) (s : List Nat) : (tupAt av s).length = s.length := by simp [tupAt]
theorem tupAt_rd (av : Nat → Nat → Int) (s : List Nat) (d : Nat) (h : d < s.length) : rd (tupAt av s) d = av d (s.getD d 0) := by
  rw [rd_nat _ _ (by rw [tupAt_length]; exact h)]
  simp [tupAt]
/-- A tuple's place, reckoned from the last number on. -/
def horn : List Int → List Int → Int
  | _ :: l, b :: x => b * lprod l + horn l x
  | _, _ => 0
def hornN : List Nat → List Nat → Nat
  | _ :: N, i :: s => i * nprod N + hornN N s
  | _, _ => 0
theorem lex_horn : ∀ N, (lexList N).map (hornN N) = List.range (nprod N)
  | [] => rfl
  | n :: N => by
    have ih := lex_horn N
    rw [lexList, nprod_cons, List.map_flatMap]
    have : ∀ i, List.map (hornN (n :: N)) (List.map (fun x => i :: x) (lexList N)) = (List.range (nprod N)).map (i * nprod N + ·) := by
      intro i
      rw [← ih, List.map_map, List.map_map]
      rfl
    simp only [this]
    clear this ih
    generalize nprod N = P
    induction n with
    | zero => simp
    | succ n ihn => rw [List.range_succ, List.flatMap_append, ihn, Nat.succ_mul, List.range_add]; simp
theorem lprod_pos {l : List Int} (h : ∀ x ∈ l, 1 ≤ x) : 1 ≤ lprod l := by
  induction l with
  | nil => simp [lprod]
  | cons a l ih =>
    rw [lprod_cons]
    have h1 := h a (by simp)
    have h2 := ih (fun x hx => h x (by simp [hx]))
    have : 1 * 1 ≤ a * lprod l := Int.mul_le_mul h1 h2 (by omega) (by omega)
    omega
theorem place_loop (l0 x : List Int) (hx : Within l0 x) (hd : ∀ y ∈ l0, 1 ≤ y) (L : Int) (hL : L ≤ 1048576) : ∀ (n d : Nat) (p : Int), l0.length - d = n → d ≤ l0.length → 0 ≤ p → (p + 1) * lprod (l0.drop d) ≤ L →
    placeW l0 x n d p = p * lprod (l0.drop d) + horn (l0.drop d) (x.drop d)
  | 0, d, p, h, hi, hp, hb => by
    rw [List.drop_eq_nil_of_le (by omega)]
    simp [placeW, horn, lprod]
  | n + 1, d, p, h, hi, hp, hb => by
    have hlt : d < l0.length := by omega
    obtain ⟨h1, h2⟩ := hx.2 d hlt
    simp only [placeW]
    rw [drop_rd l0 d hlt, lprod_cons] at hb
    rw [drop_rd l0 d hlt, drop_rd x d (by rw [hx.1]; exact hlt)]
    have hP : 1 ≤ lprod (l0.drop (d + 1)) := lprod_pos (fun y hy => hd y (List.mem_of_mem_drop hy))
    have ha : 1 ≤ rd l0 d := by omega
    generalize rd l0 d = a at *
    generalize rd x d = b at *
    generalize hq : lprod (l0.drop (d + 1)) = P at *
    have hpa : 0 ≤ p * a := Int.mul_nonneg hp (by omega)
    have e1 : (p + 1) * (a * P) = (p * a + a) * P := by rw [← Int.mul_assoc, Int.add_mul, Int.one_mul]
    have e2 : (p * a + b + 1) * P ≤ (p * a + a) * P := Int.mul_le_mul_of_nonneg_right (by omega) (by omega)
    have e3 : (p * a + b + 1) * P ≤ L := by omega
    have e4 : (p * a + b + 1) * 1 ≤ (p * a + b + 1) * P := Int.mul_le_mul_of_nonneg_left hP (by omega)
    have w1 : wrap64 (p * a) = p * a := by unfold wrap64; omega
    have w2 : wrap64 (p * a + b) = p * a + b := by unfold wrap64; omega
    have ih := place_loop l0 x hx hd L hL n (d + 1) (p * a + b) (by omega) (by omega) (by omega) (by rw [hq]; exact e3)
    rw [hq] at ih
    simp only [horn, lprod_cons, hq]
    rw [w1, w2, ih]
    rw [Int.add_mul, Int.mul_assoc, Int.add_assoc]
theorem place_eq (l0 x : List Int) (hx : Within l0 x) (hd : ∀ y ∈ l0, 1 ≤ y) (hL : lprod l0 ≤ 1048576) : placeOf l0 x = horn l0 x := by
  have := place_loop l0 x hx hd (lprod l0) hL l0.length 0 0 (by omega) (by omega) (by omega) (by simp)
  unfold placeOf
  rw [hx.1, this]
  simp
theorem horn_ints : ∀ (N s : List Nat), horn (ints N) (ints s) = hornN N s
  | [], s => by cases s <;> rfl
  | _ :: _, [] => rfl
  | n :: N, i :: s => by
    have h1 : lprod (ints N) = nprod N := by
      clear s
      induction N with
      | nil => rfl
      | cons a N ih => show (a : Int) * lprod (ints N) = _; rw [ih, nprod_cons]; simp
    show (i : Int) * lprod (ints N) + horn (ints N) (ints s) = _
    rw [horn_ints N s, h1]
    simp [hornN]
end Go.Proofs.Ytjbjofmcmjojlaa.Pure
