/- A counter of several digits, each with a base of its own: all that it counts from noughts on are the index lists in their order. Plain lists alone; no condition. -/
namespace Go.Proofs.YtjbjofmcmjojlaaQ

/-- The counter behind s, of as many digits as told: the last of them that may rise rises, those behind it begin anew. -/
def odoNext (N : List Nat) : List Nat → Nat → Option (List Nat)
  | _, 0 => none
  | s, d + 1 => if s.getD d 0 + 1 < N.getD d 0 then some (s.set d (s.getD d 0 + 1)) else odoNext N (s.set d 0) d
/-- All that is counted from s on. -/
inductive Odo (N : List Nat) : List Nat → List (List Nat) → Prop where
  | last {s : List Nat} : odoNext N s N.length = none → Odo N s [s]
  | more {s s' : List Nat} {l : List (List Nat)} : odoNext N s N.length = some s' → Odo N s' l → Odo N s (s :: l)
def tupAt (av : Nat → Nat → Int) (s : List Nat) : List Int := (List.range s.length).map fun d => av d (s.getD d 0)
def ints (s : List Nat) : List Int := s.map Int.ofNat

/-- All index lists, the last index going fastest. -/
def lexList : List Nat → List (List Nat)
  | [] => [[]]
  | n :: N => (List.range n).flatMap fun i => (lexList N).map (i :: ·)

/-- The counter's step, and what is left of it where it falls over. -/
def odoGo (N : List Nat) : List Nat → Nat → List Nat × Bool
  | s, 0 => (s, false)
  | s, d + 1 => if s.getD d 0 + 1 < N.getD d 0 then (s.set d (s.getD d 0 + 1), true) else odoGo N (s.set d 0) d
theorem odoNext_go (N : List Nat) : ∀ (m : Nat) (s : List Nat), odoNext N s m = if (odoGo N s m).2 then some (odoGo N s m).1 else none
  | 0, s => rfl
  | m + 1, s => by
    simp only [odoNext, odoGo]
    split
    · rfl
    · exact odoNext_go N m _
theorem odoGo_cons (n i : Nat) (N : List Nat) : ∀ (m : Nat) (s : List Nat), odoGo (n :: N) (i :: s) (m + 1) =
    if (odoGo N s m).2 then (i :: (odoGo N s m).1, true) else if i + 1 < n then ((i + 1) :: (odoGo N s m).1, true) else (0 :: (odoGo N s m).1, false)
  | 0, s => by simp [odoGo]
  | m + 1, s => by
    rw [odoGo]
    simp only [List.getD_cons_succ, List.set_cons_succ]
    by_cases h : s.getD m 0 + 1 < N.getD m 0
    · have e : odoGo N s (m + 1) = (s.set m (s.getD m 0 + 1), true) := by rw [odoGo, if_pos h]
      rw [if_pos h, e]
      simp
    · have e : odoGo N s (m + 1) = odoGo N (s.set m 0) m := by rw [odoGo, if_neg h]
      rw [if_neg h, odoGo_cons n i N m (s.set m 0), e]
theorem odoGo_off (N : List Nat) : ∀ (m : Nat) (s : List Nat), m ≤ s.length → (odoGo N s m).2 = false → (odoGo N s m).1 = List.replicate m 0 ++ s.drop m
  | 0, s, _, _ => by simp [odoGo]
  | m + 1, s, hm, h => by
    simp only [odoGo] at h ⊢
    by_cases hc : s.getD m 0 + 1 < N.getD m 0
    · rw [if_pos hc] at h; cases h
    · rw [if_neg hc] at h ⊢
      rw [odoGo_off N m (s.set m 0) (by simp; omega) h]
      rw [List.drop_eq_getElem_cons (by simp; omega : m < (s.set m 0).length)]
      simp only [List.getElem_set_self, List.drop_set]
      rw [if_pos (by omega), List.replicate_succ']
      simp
theorem Odo.length {N s : List Nat} {l : List (List Nat)} (h : Odo N s l) : 0 < l.length := by cases h <;> simp
theorem Odo.cons {n i : Nat} {N s : List Nat} {l T : List (List Nat)} (h : Odo N s l) (hs : s.length = N.length)
    (hT : (i + 1 < n ∧ Odo (n :: N) ((i + 1) :: List.replicate N.length 0) T) ∨ (n ≤ i + 1 ∧ T = [])) : Odo (n :: N) (i :: s) (l.map (i :: ·) ++ T) := by
  induction h with
  | @last s h =>
    rw [odoNext_go] at h
    have h0 : (odoGo N s N.length).2 = false := by
      cases e : (odoGo N s N.length).2 with
      | false => rfl
      | true => rw [if_pos e] at h; cases h
    have h1 := odoGo_off N N.length s (by omega) h0
    rw [List.drop_eq_nil_of_le (by omega), List.append_nil] at h1
    rcases hT with ⟨h2, h3⟩ | ⟨h2, rfl⟩
    · refine Odo.more ?_ h3
      rw [odoNext_go, List.length_cons, odoGo_cons, h0]
      simp [h2, h1]
    · refine Odo.last ?_
      rw [odoNext_go, List.length_cons, odoGo_cons, h0]
      simp [show ¬ i + 1 < n by omega]
  | @more s s' l h _ ih =>
    have hl : s'.length = N.length := by
      rw [odoNext_go] at h
      split at h
      · injection h with h
        rw [← h]
        have : ∀ (m : Nat) (s : List Nat), (odoGo N s m).1.length = s.length := by
          intro m
          induction m with
          | zero => intro s; rfl
          | succ m ih => intro s; simp only [odoGo]; split <;> simp [ih]
        rw [this, hs]
      · cases h
    refine Odo.more ?_ (ih hl)
    rw [odoNext_go] at h ⊢
    rw [List.length_cons, odoGo_cons]
    split at h
    · rename_i h2
      injection h with h
      simp [h2, h]
    · cases h
theorem odo_tail (n : Nat) (N : List Nat) (ih : Odo N (List.replicate N.length 0) (lexList N)) : ∀ (d i : Nat), n - i = d → i < n →
    Odo (n :: N) (i :: List.replicate N.length 0) ((List.range' i d).flatMap fun i => (lexList N).map (i :: ·))
  | 0, i, h, hi => by omega
  | d + 1, i, h, hi => by
    rw [List.range'_succ, List.flatMap_cons]
    refine Odo.cons ih (by simp) ?_
    by_cases h2 : i + 1 < n
    · exact .inl ⟨h2, odo_tail n N ih d (i + 1) (by omega) h2⟩
    · refine .inr ⟨by omega, ?_⟩
      have : d = 0 := by omega
      subst this
      rfl
/-- From noughts on, the counter goes through all index lists in their order. -/
theorem odo_lex : ∀ (N : List Nat), (∀ d, d < N.length → 0 < N.getD d 0) → Odo N (List.replicate N.length 0) (lexList N)
  | [], _ => Odo.last rfl
  | n :: N, h => by
    have h0 : 0 < n := h 0 (by simp)
    have ih := odo_lex N (fun d hd => by have := h (d + 1) (by simp; omega); simpa using this)
    have := odo_tail n N ih n 0 (by omega) h0
    rw [lexList, List.range_eq_range']
    exact this
end Go.Proofs.YtjbjofmcmjojlaaQ
