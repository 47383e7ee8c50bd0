-- Texts that the row SpaceTuples leans on, joined by wip/tools/mkclaim.py: QRangeMem, QOdo, QAppendIn, Wk0, Wk1, Wk2, Wk3, Wk4, Wk5, Wk7, Wk8, Wk9, Wk10, Wk11, Wk12, Wk13, Wk14
import Derived.Test.YtjbjofmcmjojlaaCSpaceTuples0
import Derived.RangeFuncNested
import Derived.RangeFuncBound
import Derived.RangeFuncCalls
import Derived.RangeFuncLeaves
import Derived.WalkKit
import Derived.OwnWalkIn
import Derived.Maps.AppendAt
import Derived.Test.YtjbjofmcmjojlaaProg
import Derived.Below
import Derived.Deep.Draws
import Derived.Deep.AppendLies
import Derived.OwnWalk
import Derived.Laws.BytesArg
import Derived.Laws.MakeOwn
import Derived.Laws.OwnMore
import Derived.Deep.OwnRows
import Derived.Tactics
import Derived.Lib.ConvBytes
import Derived.Laws.Slices
import Derived.KernelRfl
import Derived.RowKit3
import Derived.Deep.LoopGhost
import Derived.Deep.QuietTactic
import Derived.BigQuiet
import Derived.WideLaws
import Derived.Deep.DeepCutAuto
import Derived.Deep.CutBlock
import Derived.Deep.RegionHeld3
import Derived.Laws.Rows
import Derived.Lib.AppendStr
import Derived.ArgAppend
import Derived.Laws.IdiomCopy
import Derived.OrdersHeld
import Derived.Laws.BitsLemmas
import Derived.RowKit
import Derived.WalkSpells
import Derived.Sort.LoopGhostIn
import Derived.Sort.CutIn
import Derived.Shelf.Abstract
import Derived.Shelf.RegionOpen
import Derived.TacticsInMore
import Derived.LoopNIn
import Derived.LoopIn
section
namespace Go.Proofs.YtjbjofmcmjojlaaQ
open Go Go.RowKit
structure SameOn (S : Nat → Prop) (A B : World) : Prop where
  size : A.heap.size ≤ B.heap.size
  same : ∀ k, S k → k < A.heap.size → B.heap[k]? = A.heap[k]?
  os : B.os = A.os
  tape : B.tape = A.tape
  output : B.output = A.output
theorem SameOn.refl (S : Nat → Prop) (A : World) : SameOn S A A := ⟨Nat.le_refl _, fun _ _ _ => rfl, rfl, rfl, rfl⟩
theorem SameOn.trans {S : Nat → Prop} {A B C : World} (h : SameOn S A B) (g : SameOn S B C) : SameOn S A C :=
  ⟨Nat.le_trans h.1 g.1, fun k hk hl => (g.2 k hk (Nat.lt_of_lt_of_le hl h.1)).trans (h.2 k hk hl), g.os.trans h.os, g.tape.trans h.tape, g.output.trans h.output⟩
theorem SameOn.mono {S T : Nat → Prop} {A B : World} (h : SameOn S A B) (hs : ∀ k, T k → S k) : SameOn T A B := ⟨h.1, fun k hk hl => h.2 k (hs k hk) hl, h.os, h.tape, h.output⟩
theorem SameOn.putObj {S : Nat → Prop} (A : World) (l : Nat) (o : Obj) (h : ¬ S l) : SameOn S A (A.putObj l o) :=
  ⟨by simp, fun k hk _ => World.putObj_heap_other (fun e => h (e ▸ hk)), rfl, rfl, rfl⟩
theorem SameOn.of_below {S : Nat → Prop} {A B : World} (h : Below A.heap.size A B) : SameOn S A B := ⟨h.size, fun k _ hl => h.block k hl, h.os, h.tape, h.output⟩
theorem SameOn.alloc (S : Nat → Prop) (A : World) (o : Obj) : SameOn S A (A.alloc o) := SameOn.of_below ((Below.refl _ _).alloc (Nat.le_refl _) o)
theorem SameOn.setCell {S : Nat → Prop} (A : World) (a : Addr) (v : Value) (h : ¬ S a.block) : SameOn S A (A.setCell a v) :=
  have hb : Below 0 A (A.setCell a v) := (Below.refl 0 A).setCell (Nat.zero_le _) v
  ⟨hb.size, fun k hk _ => Below.heap_setCell A a v k (fun e => h (e ▸ hk)), hb.os, hb.tape, hb.output⟩
theorem SameOn.drew (S : Nat → Prop) (A : World) : SameOn S A A.drew := SameOn.of_below (Below.refl _ A).drew
theorem SameOn.of_grown {S : Nat → Prop} {A B : World} {row : Option Nat} {b : Nat} (h : A.grownBy B row) (hb : Below b A B) (hr : ∀ k, row = some k → ¬ S k) : SameOn S A B :=
  ⟨h.size, fun k hk hl => h.block k hl (fun e => hr k e.symm hk), hb.os, hb.tape, hb.output⟩
theorem SameOn.below {S : Nat → Prop} {A B : World} {b : Nat} (h : SameOn S A B) (hS : ∀ k, k < b → S k) (hb : b ≤ A.heap.size) : Below b A B :=
  ⟨h.os, h.tape, h.output, h.size, fun k hk => h.same k (hS k hk) (Nat.lt_of_lt_of_le hk hb)⟩
structure Bears {α : Type} (S0 : Nat → Prop) (J : (Nat → Prop) → List α → World → Prop) : Prop where
  step : ∀ S pre A B, J S pre A → SameOn (fun k => ¬ S k ∨ S0 k) A B → J S pre B
  more : ∀ (S T : Nat → Prop) pre A, J S pre A → (∀ k, T k → A.heap.size ≤ k) → J (fun k => S k ∨ T k) pre A
def Hands {α : Type} (P : Program) (g : Nat) (lb : Array Value) (Rd : α → Value → World → Prop) (xs : List α) (S0 : Nat → Prop) (w : World) : Prop :=
  ∀ (l n : Nat) (J : (Nat → Prop) → List α → World → Prop) (W : World), SameOn S0 w W → Bears S0 J →
    (∀ (S : Nat → Prop) pre x v A, J S pre A → (∀ k, S0 k → S k) → (∀ k, S k → k < A.heap.size) → (pre ++ [x]) <+: xs → Rd x v A →
      YieldAt Fence.wide (n - 1) P l #[v] A fun e W' => e = .returned (.bool true) ∧ J S (pre ++ [x]) W' ∧ SameOn S A W') →
    J S0 [] W →
    CallsIn Fence.wide n P g (#[.func (.yield l) #[] #[]] ++ lb) W fun e W' => (∃ v, e = .returned v) ∧ ∃ S, J S xs W'
variable {P : Program}
def roundOn {α : Type} (I : (Nat → Prop) → List α → World → Prop) (S : Nat → Prop) (pre : List α) (W : World) : Exit → Act → World → Prop
  | .normal, _, W' => KeepsOthers W W' ∧ I S pre W' ∧ SameOn S W W'
  | _, _, _ => False
theorem wp_rangeMem {α : Type} {g : Operand} {p : Tmp} {assign body : Code} {Q : Exit → Act → World → Prop} {a : Act} {w : World}
    {gf : Nat} {lb : Array Value} (hg : a.eval g = .func (.func gf) #[] lb) (eg : ∀ args w, (callFunc gf args).run P w = .ok (.enter gf args) w)
    {Rd : α → Value → World → Prop} {xs : List α} {S0 : Nat → Prop} (hseq : Hands P gf lb Rd xs S0 w) (hS0 : ∀ k, S0 k → k < w.heap.size)
    (I : (Nat → Prop) → List α → World → Prop) (hI : Bears S0 I)
    (hIp : ∀ S pre A (l : Nat) (o o' : Obj), I S pre A → A.heap[l]? = some o → o.isCells = false → w.heap.size ≤ l → I S pre (A.putObj l o'))
    (hRp : ∀ x v A (l : Nat) (o o' : Obj), Rd x v A → A.heap[l]? = some o → o.isCells = false → Rd x v (A.putObj l o'))
    (h0 : I S0 [] w) (a₁ : Value → Act)
    (hassign : ∀ (l : Nat) (v : Value) (W : World) (n : Nat) (K : Act → World → Prop), K (a₁ v) W →
      assign.wpIn (Fence.wide.inRound l) n P (Exit.then K (fun _ _ _ => False)) { tmps := ((#[p] : Array Tmp).zip #[v]).foldl (fun t (p, v) => t.setIfInBounds p v) a.tmps, defers := [] } W)
    (hbody : ∀ (l n : Nat) (S : Nat → Prop) (pre : List α) (x : α) (v : Value) (W : World), I S pre W → (∀ k, S0 k → S k) → (∀ k, S k → k < W.heap.size) → (pre ++ [x]) <+: xs → Rd x v W →
      body.wpIn (Fence.wide.inRound l) n P (roundOn I S (pre ++ [x]) W) (a₁ v) W)
    (hdone : ∀ (D : Nat) (S : Nat → Prop) (W : World), I S xs W → w.heap.size ≤ D → W.heap[D]? = some (.deferred (some [])) → Q .normal { a with defers := { target := .collected D, args := #[] } :: a.defers } W) :
    (Code.rangeFunc g #[p] assign body).wp P Q a w := by
  refine (wpIn_wide (n := 0)).1 ?_
  refine wpIn_rangeFunc ?_
  intro fn hfn
  obtain ⟨rec, hrec⟩ : ∃ rec : LoopState → Option Code → Loop, rec = fun st pe => { state := st, pending := pe, fn, tmps := a.tmps, params := #[p], assign, body, defers := w.heap.size } := ⟨_, rfl⟩
  obtain ⟨W1, hW1⟩ : ∃ W1, (w.alloc (.deferred (some []))).alloc (.loop (rec .ready none)) = W1 := ⟨_, rfl⟩
  have hL1 : W1.heap[w.heap.size + 1]? = some (.loop (rec .ready none)) := by
    rw [← hW1]; have := World.alloc_heap_new (w.alloc (.deferred (some []))) (.loop (rec .ready none)); rwa [World.size_alloc] at this
  have hK1 : W1.heap[w.heap.size]? = some (.deferred (some [])) := by
    rw [← hW1]; exact (Below.heap_alloc _ _ _ (by simp)).trans (World.alloc_heap_new w _)
  have hs1 : ∀ S, SameOn S w W1 := fun S => by rw [← hW1]; exact (SameOn.alloc S _ _).trans (SameOn.alloc S _ _)
  have hI1 : I S0 [] W1 := hI.step _ _ _ _ h0 (hs1 _)
  refine ⟨w.heap.size + 1, [{ target := .collected w.heap.size, args := #[] }], W1, { target := .fn (.func gf) lb, args := #[.func (.yield (w.heap.size + 1)) #[] #[]] }, W1, gf,
    #[.func (.yield (w.heap.size + 1)) #[] #[]] ++ lb, W1, ?_, ?_, ?_, ?_, fun h => by simp [Fence.wide] at h, ?_⟩
  · rw [← hW1, hrec]; exact run_enterLoop_outer _ _ _ _ _
  · simp only [resolve, hg]
    simp [go_sem]
  · intro f' _; exact trivial
  · simp [invoke, go_sem, eg]
  · refine (hseq (w.heap.size + 1) (0 - 1)
      (fun S pre W => I S pre W ∧ W.heap[w.heap.size + 1]? = some (.loop (rec .ready none)) ∧ W.heap[w.heap.size]? = some (.deferred (some [])) ∧ ¬ S (w.heap.size + 1) ∧ ¬ S w.heap.size)
      W1 (hs1 _) ⟨?_, ?_⟩ ?_ ⟨hI1, hL1, hK1, fun h => by have := hS0 _ h; omega, fun h => by have := hS0 _ h; omega⟩).mono ?_
    · rintro S pre A B ⟨hi, hl, hk, hn1, hn2⟩ hs
      exact ⟨hI.step _ _ _ _ hi hs, (hs.2 _ (.inl hn1) (Array.getElem?_eq_some_iff.1 hl).1).trans hl, (hs.2 _ (.inl hn2) (Array.getElem?_eq_some_iff.1 hk).1).trans hk, hn1, hn2⟩
    · rintro S T pre A ⟨hi, hl, hk, hn1, hn2⟩ ht
      have h1 := (Array.getElem?_eq_some_iff.1 hl).1
      refine ⟨hI.more _ _ _ _ hi ht, hl, hk, ?_, ?_⟩
      · rintro (h | h)
        · exact hn1 h
        · have := ht _ h; omega
      · rintro (h | h)
        · exact hn2 h
        · have := ht _ h; omega
    ·
      rintro S pre x v W ⟨hi, hl, hk, hn1, hn2⟩ hsub hsz hlen hrd
      have hlt : w.heap.size + 1 < W.heap.size := (Array.getElem?_eq_some_iff.1 hl).1
      have hy := run_yield (P := P) (args := #[v]) hl (by rw [hrec]; rfl)
      rw [hrec] at hy
      refine ⟨fn, _, assign, body, hy, roundIn_of_wpIn hfn ?_⟩
      refine hassign (w.heap.size + 1) v W (0 - 1 - 1) _ ?_
      refine ⟨_, run_beginRound hl (by rw [hrec]), ?_⟩
      have hl2 : (W.putObj (w.heap.size + 1) (.loop { rec .ready none with state := .busy })).heap[w.heap.size + 1]? = some (.loop { rec .ready none with state := .busy }) := World.putObj_heap_same hlt
      have hk2 : (W.putObj (w.heap.size + 1) (.loop { rec .ready none with state := .busy })).heap[w.heap.size]? = some (.deferred (some [])) := (World.putObj_heap_other (by omega)).trans hk
      refine wpIn_mono (hbody _ _ S pre x v _ (hIp _ _ _ _ _ _ hi hl rfl (by omega)) hsub (fun k h => by simpa using hsz k h) hlen (hRp _ _ _ _ _ _ hrd hl rfl)) ?_
      rintro e a3 W3 hp
      cases e with
      | normal =>
        obtain ⟨hk3, hi3, hs3⟩ := hp
        have hl3 := hk3.same _ _ hl2 rfl
        have hend := run_endRound (P := P) none hl3
        have hlt3 := (Array.getElem?_eq_some_iff.1 hl3).1
        refine ⟨_, _, hend, rfl, ⟨hIp _ _ _ _ _ _ hi3 hl3 rfl (by omega), ?_, ?_, hn1, hn2⟩, ?_⟩
        · rw [World.putObj_heap_same hlt3, hrec]; rfl
        · exact (World.putObj_heap_other (by omega)).trans (hk3.same _ _ hk2 rfl)
        · exact ((SameOn.putObj W _ _ hn1).trans hs3).trans (SameOn.putObj _ _ _ hn1)
      | ret => exact hp.elim
      | exit id => exact hp.elim
      | goto t => exact hp.elim
      | panic ch => exact hp.elim
      | outgrown => exact hp.elim
    ·
      rintro e W2 ⟨⟨v, rfl⟩, S, hi, hl, hk, hn1, hn2⟩
      refine ⟨none, _, by have := run_endLoop (P := P) hl (by rw [hrec]; simp); rw [hrec] at this; exact this, ?_⟩
      exact hdone _ S _ (hIp _ _ _ _ _ _ hi hl rfl (by omega)) (Nat.le_refl _) ((World.putObj_heap_other (by omega)).trans hk)
end Go.Proofs.YtjbjofmcmjojlaaQ
end
section
namespace Go.Proofs.YtjbjofmcmjojlaaQ
def odoNext (N : List Nat) : List Nat → Nat → Option (List Nat)
  | _, 0 => none
  | s, d + 1 => if s.getD d 0 + 1 < N.getD d 0 then some (s.set d (s.getD d 0 + 1)) else odoNext N (s.set d 0) d
inductive Odo (N : List Nat) : List Nat → List (List Nat) → Prop where
  | last {s : List Nat} : odoNext N s N.length = none → Odo N s [s]
  | more {s s' : List Nat} {l : List (List Nat)} : odoNext N s N.length = some s' → Odo N s' l → Odo N s (s :: l)
def tupAt (av : Nat → Nat → Int) (s : List Nat) : List Int := (List.range s.length).map fun d => av d (s.getD d 0)
def ints (s : List Nat) : List Int := s.map Int.ofNat
def lexList : List Nat → List (List Nat)
  | [] => [[]]
  | n :: N => (List.range n).flatMap fun i => (lexList N).map (i :: ·)
def odoGo (N : List Nat) : List Nat → Nat → List Nat × Bool
  | s, 0 => (s, false)
  | s, d + 1 => if s.getD d 0 + 1 < N.getD d 0 then (s.set d (s.getD d 0 + 1), true) else odoGo N (s.set d 0) d
theorem odoNext_go (N : List Nat) : ∀ (m : Nat) (s : List Nat), odoNext N s m = if (odoGo N s m).2 then some (odoGo N s m).1 else none
  | 0, s => rfl
  | m + 1, s => by
    simp only [odoNext, odoGo]
    split
    · rfl
    · exact odoNext_go N m _
theorem odoGo_cons (n i : Nat) (N : List Nat) : ∀ (m : Nat) (s : List Nat), odoGo (n :: N) (i :: s) (m + 1) =
    if (odoGo N s m).2 then (i :: (odoGo N s m).1, true) else if i + 1 < n then ((i + 1) :: (odoGo N s m).1, true) else (0 :: (odoGo N s m).1, false)
  | 0, s => by simp [odoGo]
  | m + 1, s => by
    rw [odoGo]
    simp only [List.getD_cons_succ, List.set_cons_succ]
    by_cases h : s.getD m 0 + 1 < N.getD m 0
    · have e : odoGo N s (m + 1) = (s.set m (s.getD m 0 + 1), true) := by rw [odoGo, if_pos h]
      rw [if_pos h, e]
      simp
    · have e : odoGo N s (m + 1) = odoGo N (s.set m 0) m := by rw [odoGo, if_neg h]
      rw [if_neg h, odoGo_cons n i N m (s.set m 0), e]
theorem odoGo_off (N : List Nat) : ∀ (m : Nat) (s : List Nat), m ≤ s.length → (odoGo N s m).2 = false → (odoGo N s m).1 = List.replicate m 0 ++ s.drop m
  | 0, s, _, _ => by simp [odoGo]
  | m + 1, s, hm, h => by
    simp only [odoGo] at h ⊢
    by_cases hc : s.getD m 0 + 1 < N.getD m 0
    · rw [if_pos hc] at h; cases h
    · rw [if_neg hc] at h ⊢
      rw [odoGo_off N m (s.set m 0) (by simp; omega) h]
      rw [List.drop_eq_getElem_cons (by simp; omega : m < (s.set m 0).length)]
      simp only [List.getElem_set_self, List.drop_set]
      rw [if_pos (by omega), List.replicate_succ']
      simp
theorem Odo.length {N s : List Nat} {l : List (List Nat)} (h : Odo N s l) : 0 < l.length := by cases h <;> simp
theorem Odo.cons {n i : Nat} {N s : List Nat} {l T : List (List Nat)} (h : Odo N s l) (hs : s.length = N.length)
    (hT : (i + 1 < n ∧ Odo (n :: N) ((i + 1) :: List.replicate N.length 0) T) ∨ (n ≤ i + 1 ∧ T = [])) : Odo (n :: N) (i :: s) (l.map (i :: ·) ++ T) := by
  induction h with
  | @last s h =>
    rw [odoNext_go] at h
    have h0 : (odoGo N s N.length).2 = false := by
      cases e : (odoGo N s N.length).2 with
      | false => rfl
      | true => rw [if_pos e] at h; cases h
    have h1 := odoGo_off N N.length s (by omega) h0
    rw [List.drop_eq_nil_of_le (by omega), List.append_nil] at h1
    rcases hT with ⟨h2, h3⟩ | ⟨h2, rfl⟩
    · refine Odo.more ?_ h3
      rw [odoNext_go, List.length_cons, odoGo_cons, h0]
      simp [h2, h1]
    · refine Odo.last ?_
      rw [odoNext_go, List.length_cons, odoGo_cons, h0]
      simp [show ¬ i + 1 < n by omega]
  | @more s s' l h _ ih =>
    have hl : s'.length = N.length := by
      rw [odoNext_go] at h
      split at h
      · injection h with h
        rw [← h]
        have : ∀ (m : Nat) (s : List Nat), (odoGo N s m).1.length = s.length := by
          intro m
          induction m with
          | zero => intro s; rfl
          | succ m ih => intro s; simp only [odoGo]; split <;> simp [ih]
        rw [this, hs]
      · cases h
    refine Odo.more ?_ (ih hl)
    rw [odoNext_go] at h ⊢
    rw [List.length_cons, odoGo_cons]
    split at h
    · rename_i h2
      injection h with h
      simp [h2, h]
    · cases h
theorem odo_tail (n : Nat) (N : List Nat) (ih : Odo N (List.replicate N.length 0) (lexList N)) : ∀ (d i : Nat), n - i = d → i < n →
    Odo (n :: N) (i :: List.replicate N.length 0) ((List.range' i d).flatMap fun i => (lexList N).map (i :: ·))
  | 0, i, h, hi => by omega
  | d + 1, i, h, hi => by
    rw [List.range'_succ, List.flatMap_cons]
    refine Odo.cons ih (by simp) ?_
    by_cases h2 : i + 1 < n
    · exact .inl ⟨h2, odo_tail n N ih d (i + 1) (by omega) h2⟩
    · refine .inr ⟨by omega, ?_⟩
      have : d = 0 := by omega
      subst this
      rfl
theorem odo_lex : ∀ (N : List Nat), (∀ d, d < N.length → 0 < N.getD d 0) → Odo N (List.replicate N.length 0) (lexList N)
  | [], _ => Odo.last rfl
  | n :: N, h => by
    have h0 : 0 < n := h 0 (by simp)
    have ih := odo_lex N (fun d hd => by have := h (d + 1) (by simp; omega); simpa using this)
    have := odo_tail n N ih n 0 (by omega) h0
    rw [lexList, List.range_eq_range']
    exact this
end Go.Proofs.YtjbjofmcmjojlaaQ
end
section
namespace Go.Proofs.YtjbjofmcmjojlaaQ
open Go
theorem wpListIn_append_at {F : Fence} {n : Nat} {P : Program} (w : World) {ops : Array Oper} {rest : List Oper} {o : Oper} {a : Act} {Q : Exit → Act → World → Prop}
    (hg : o.guard = none) (s x : Operand) (t : TypeId) (hop : o.op = Op.call { callee := Callee.builtin Builtin.append, args := #[s, x], argTypes := #[t, t] })
    (base : Nat) (e : TypeId) (i : TypeInfo) (z : Value) (size bytes : Nat) (h1 : P.underlying t = some (.slice e)) (h2 : P.info? e = some i) (h3 : i.zero = some z) (h4 : i.size = size) (h5 : i.bytes = bytes) (h6 : z.cells.size = size) (h7 : 0 < size)
    (v : Value) (k : Nat) (xs : List Value) (hs : a.eval s = v) (hown : w.ownsRow base e size v k xs) (ad : Addr) (m c : Nat) (news : List Value) (hx : a.eval x = .slice (some ad) m c) (hn : news.length = m * size)
    (hc : ∀ j u, news[j]? = some u → w.cell? (ad.add j) = some u) (h1c : ∀ u ∈ news, u.oneCell' = true) (b1 : k + m ≤ maxLen) (b2 : (k + m) * bytes ≤ 140737488355328) (b3 : base ≤ w.heap.size)
    (hK : ∀ v' w', w'.ownsRow base e size v' (k + m) (xs ++ news) → w.grownBy w' v.ownBlock → (v'.ownBlock = v.ownBlock ∨ v'.ownBlock = some w.heap.size) → wpListIn F n P ops Q rest (a.put o.dst v') w') :
    wpListIn F n P ops Q (o :: rest) a w := by
  refine wpListIn_plain hg fun K hK' => ?_
  obtain ⟨v', w', hrun, r1, r2, _, r3⟩ := run_append_own_at (P := P) w base t o.type e i z size bytes h1 h2 h3 h4 h5 h6 h7 v k xs hown ad m c news hn hc h1c b1 b2 b3
  unfold Oper.wpIn
  refine ⟨?_, ?_⟩
  · simp [Oper.about, hop, resolve, Target.leads, Sem.run_pure]
  · rw [Oper.semAt_plain F _ _ (by rw [hop]; intro c hc'; cases hc')]
    simp [execOp, hop, resolve, invoke, builtin, hs, hx, hrun, Result.andThen]
    exact hK' _ _ (hK v' w' r1 r2 r3)
end Go.Proofs.YtjbjofmcmjojlaaQ
end
section
namespace Go.Proofs.Ytjbjofmcmjojlaa.Wk
open Go.RowKit Go.Proofs.YtjbjofmcmjojlaaW.PrintWords Go.Proofs.YtjbjofmcmjojlaaW.PrintLast Go.Proofs.YtjbjofmcmjojlaaW.PrintMore
attribute [local go_sem] max2_int min2_int max_two min_two max_three min_three max_four min_four
set_option linter.unusedVariables false
set_option linter.unusedSimpArgs false
def errW : Option Int → Value
  | none => .nilIface
  | some c => .iface 0 (.int .i64 c)
theorem errW_none : errW none = .nilIface := rfl
theorem errW_some (c : Int) : errW (some c) = .iface 0 (.int .i64 c) := rfl
theorem info3 : (Try.prog.info? 3).map (fun i => (i.zero, i.size, i.bytes)) = some (some (.int .i64 0), 1, 8) := by kernel_rfl
theorem info22 : (Try.prog.info? 22).map (fun i => (i.zero, i.size, i.bytes)) = some (some (.slice none 0 0), 1, 24) := by kernel_rfl
def rd_L1 (xs : List (List Int)) (i : Int) : (List Int) := xs.getD i.toNat ([] : List Int)
theorem at_L1 {w : World} {A : Option Addr} {n : Nat} {xs : List (List Int)} (h : Kd.C (Kd.slice 3 (Kd.int .i64)) w A n xs) (i : Int) (h0 : 0 ≤ i) (h1 : i < n) : ∃ ad A0 c0, A = some ad ∧ w.cell? (ad.add i.toNat) = some (.slice A0 (rd_L1 xs i).length c0) ∧ (rd_L1 xs i).length ≤ c0 ∧ (Kd.int .i64).C w A0 (rd_L1 xs i).length (rd_L1 xs i) := by
  obtain ⟨ad, c, e, _, hK, hc0⟩ := Kd.C_get h ([] : List Int) i h0 h1
  have hc : ∀ j u, c[j]? = some u → w.cell? (ad.add (i.toNat * 1 + j)) = some u := hc0
  obtain ⟨A0, c0, rfl, l0, g0⟩ := hK
  exact ⟨ad, A0, c0, e, by have hq := hc 0 _ rfl; rwa [Nat.mul_one, Nat.add_zero] at hq, l0, g0⟩
def rd_L2 (xs : List (List (List Int))) (i : Int) : (List (List Int)) := xs.getD i.toNat ([] : List (List Int))
structure S33 where
  f0 : Int
  f1 : (List (List Int))
  f2 : (List Int)
  f3 : (List Int)
  f4 : (List Int)
  f5 : (List Int)
def z33 : S33 := ⟨(0 : Int), ([] : List (List Int)), ([] : List Int), ([] : List Int), ([] : List Int), ([] : List Int)⟩
def k33 : Kd S33 := Kd.iso (Kd.pair (Kd.int .i64) (Kd.pair (Kd.slice 22 (Kd.slice 3 (Kd.int .i64))) (Kd.pair (Kd.slice 3 (Kd.int .i64)) (Kd.pair (Kd.slice 3 (Kd.int .i64)) (Kd.pair (Kd.slice 3 (Kd.int .i64)) (Kd.slice 3 (Kd.int .i64))))))) (fun x : S33 => (x.f0, x.f1, x.f2, x.f3, x.f4, x.f5))
def rd_T33 (xs : List S33) (i : Int) : S33 := xs.getD i.toNat z33
end Go.Proofs.Ytjbjofmcmjojlaa.Wk
end
section
namespace Go.Proofs.Ytjbjofmcmjojlaa.Wk
open Go.RowKit Go.Proofs.YtjbjofmcmjojlaaW.PrintWords Go.Proofs.YtjbjofmcmjojlaaW.PrintLast Go.Proofs.YtjbjofmcmjojlaaW.PrintMore
attribute [local go_sem] max2_int min2_int max_two min_two max_three min_three max_four min_four
set_option linter.unusedVariables false
set_option linter.unusedSimpArgs false
def idxFrom (p : Int → Bool) (l : List Int) : Nat → Nat → Int
  | 0, _ => -1
  | d + 1, i => if p (rd l i) then i else idxFrom p l d (i + 1)
theorem idxFrom_any_aux (p : Int → Bool) (l : List Int) (d : Nat) : ∀ i, l.length - i = d → decide (0 ≤ idxFrom p l d i) = (l.drop i).any p := by
  induction d with
  | zero => intro i h; rw [List.drop_eq_nil_of_le (by omega)]; simp [idxFrom]
  | succ d ih =>
    intro i h
    have hi : i < l.length := by omega
    rw [List.drop_eq_getElem_cons hi, List.any_cons, ← ih (i + 1) (by omega), idxFrom]
    have e : rd l (i : Int) = l[i] := by simp [rd, hi]
    rw [e]
    by_cases hp : p l[i] = true
    · rw [if_pos hp, hp]; simp
    · rw [if_neg hp]; simp only [Bool.not_eq_true] at hp; rw [hp]; simp
theorem idxFrom_any (p : Int → Bool) (l : List Int) : decide (0 ≤ idxFrom p l l.length 0) = l.any p := by
  have := idxFrom_any_aux p l l.length 0 (by omega)
  simpa using this
def PredAt (g : Nat) (C : Array Value) (p : Int → Bool) (w : World) : Prop :=
  (∀ args w, Sem.run Try.prog (callFunc g args) w = .ok (.enter g args) w) ∧
  ∀ (x : Int) (n : Nat), Calls Try.prog g (#[.int .i64 x] ++ C) (w.drewN n) fun e w' => e = .returned (.bool (p x)) ∧ Drawn0 w w'
set_option maxHeartbeats 800000 in
theorem IndexFunc_int (g : Nat) (C : Array Value) (p : Int → Bool)
    (A0 : Option Addr) (c0 : Nat) (l0 : List Int) (w : World) (hp : PredAt g C p w) (hr0 : Kd.C (Kd.int .i64) w A0 l0.length l0) (hm : l0.length ≤ maxLen) :
    Calls Try.prog 37 #[.slice A0 l0.length c0, .func (.func g) #[] C] w fun e w' => e = .returned (.int .i64 (idxFrom p l0 l0.length 0)) ∧ Drawn0 w w' := by
  have HR0 := Aside0.mk hr0
  clear hr0
  unfold maxLen at hm
  go_enter Try.func37, Try.ntmps37
  go_wp2
  go_loopw [5, 8] (fun _ i wr => ∃ k : Nat, k ≤ l0.length ∧ i = .int .i64 k ∧ Aside0 (idxFrom p l0 l0.length 0 = idxFrom p l0 (l0.length - k) k) ∧ Drawn0 w wr) (fun _ i _ => l0.length - (intOf i).toNat)
  case atStart => exact ⟨0, Nat.zero_le _, rfl, ⟨rfl⟩, Drawn0.refl _⟩
  case round =>
    obtain ⟨k, hk, rfl, HE, ⟨nd, rfl⟩⟩ := hrel
    by_cases hlt : k < l0.length
    · obtain ⟨ad, e1, hx0⟩ := Kd.at_int HR0.out k (by omega) (by omega)
      cases e1
      have hx : w.cell? (ad.add k) = some (Value.int IntKind.i64 (rd l0 k)) := by simpa using hx0
      clear hx0
      have hq := hp.2 (rd l0 k) nd
      have hcf := hp.1
      have HN : Aside0 (idxFrom p l0 (l0.length - k) k = if p (rd l0 k) then (k : Int) else idxFrom p l0 (l0.length - (k + 1)) (k + 1)) := ⟨by
        rw [show l0.length - k = (l0.length - (k + 1)) + 1 by omega, idxFrom]⟩
      generalize p (rd l0 k) = b at hq HN
      have HQ := Aside0.mk hq
      clear hq
      cases b with
      | true =>
        go_wp2_with (refine HQ.out.mono ?_; rintro e w' ⟨rfl, ⟨n2, rfl⟩⟩)
        go_ret
        exact ⟨by rw [HE.out, HN.out]; rfl, by first | exact Drawn0.refl _ | (exact ⟨_, rfl⟩)⟩
      | false =>
        go_wp2_with (refine HQ.out.mono ?_; rintro e w' ⟨rfl, ⟨n2, rfl⟩⟩)
        go_roundw
        case rel => exact ⟨k + 1, by omega, by go_num, ⟨by rw [HE.out, HN.out]; simp⟩, ⟨_, rfl⟩⟩
        case measure => simp [intOf]; omega
    · have HN : Aside0 (idxFrom p l0 (l0.length - k) k = -1) := ⟨by rw [show l0.length - k = 0 by omega, idxFrom]⟩
      go_wp2
      go_ret
      exact ⟨by rw [HE.out, HN.out]; rfl, ⟨_, rfl⟩⟩
end Go.Proofs.Ytjbjofmcmjojlaa.Wk
end
section
namespace Go.Proofs.Ytjbjofmcmjojlaa.Wk
open Go.RowKit Go.Proofs.YtjbjofmcmjojlaaW.PrintWords Go.Proofs.YtjbjofmcmjojlaaW.PrintLast Go.Proofs.YtjbjofmcmjojlaaW.PrintMore
attribute [local go_sem] max2_int min2_int max_two min_two max_three min_three max_four min_four
set_option linter.unusedVariables false
set_option linter.unusedSimpArgs false
set_option maxHeartbeats 800000 in
theorem ContainsFunc_int (g : Nat) (C : Array Value) (p : Int → Bool)
    (A0 : Option Addr) (c0 : Nat) (l0 : List Int) (w : World) (hp : PredAt g C p w) (hr0 : Kd.C (Kd.int .i64) w A0 l0.length l0) (hm : l0.length ≤ maxLen) :
    Calls Try.prog 26 #[.slice A0 l0.length c0, .func (.func g) #[] C] w fun e w' => e = .returned (.bool (l0.any p)) ∧ Drawn0 w w' := by
  have HR0 := Aside0.mk hr0
  clear hr0
  have HP := Aside0.mk hp
  clear hp
  have HM := Aside0.mk hm
  clear hm
  go_enter Try.func26, Try.ntmps26
  go_wp2_with (go_at_call 37; refine (IndexFunc_int g C p _ _ l0 _ HP.out HR0.out HM.out).mono ?_; rintro e w' ⟨rfl, ⟨n2, rfl⟩⟩)
  go_ret
  exact ⟨by rw [← idxFrom_any]; rfl, ⟨_, rfl⟩⟩
end Go.Proofs.Ytjbjofmcmjojlaa.Wk
end
section
namespace Go.Proofs.Ytjbjofmcmjojlaa.Wk
open Go.RowKit Go.Proofs.YtjbjofmcmjojlaaW.PrintWords Go.Proofs.YtjbjofmcmjojlaaW.PrintLast Go.Proofs.YtjbjofmcmjojlaaW.PrintMore
attribute [local go_sem] max2_int min2_int max_two min_two max_three min_three max_four min_four
set_option linter.unusedVariables false
set_option linter.unusedSimpArgs false
def slices_Index_int_int.l0 : Nat → List Int → Int → Int → Int → Option (Int)
  | 0, _, _, _, _ => none
  | k + 1, x0, x1, x7, x8 => if x8 < x7 then (if 0 ≤ x8 then (if x8 < (x0.length : Int) then (if x1 = (rd x0 x8) then (some x8) else (slices_Index_int_int.l0 k x0 x1 x7 (wrap64 (x8 + 1)))) else (none)) else (none)) else (some (-1))
def slices_Index_int_int.f (k : Nat) (l0 : List Int) (a1 : Int) : Option (Int) := slices_Index_int_int.l0 k l0 a1 (l0.length : Int) 0
set_option maxHeartbeats 8000000 in
set_option maxRecDepth 100000 in
theorem slices_Index_int_int.calls (k : Nat) (A0 : Option Addr) (c0 : Nat) (l0 : List Int) (a1 : Int) (r : Int) (w : World) (hr0 : Kd.C (Kd.int .i64) w A0 l0.length l0) (hc0 : l0.length ≤ c0) (h : slices_Index_int_int.f k l0 a1 = some r) :
    Calls Try.prog 38 #[.slice A0 l0.length c0, .int .i64 a1] w fun e w' => e = .returned (.int .i64 r) ∧ Drawn0 w w' := by
  have HR0 := Aside0.mk hr0
  have HC0 := Aside0.mk hc0
  clear hr0 hc0
  have H : (slices_Index_int_int.l0 k l0 a1 (l0.length : Int) 0) = some r := h
  clear h
  have H' := Aside0.mk H
  clear H
  go_enter Try.func38, Try.ntmps38
  go_wp2
  go_loopg [8] k (fun kq v8 w' => ∃ (x8_1 : Int), v8 = .int .i64 x8_1 ∧ Aside0 (slices_Index_int_int.l0 kq l0 a1 (l0.length : Int) x8_1 = some r) ∧ Aside0 (kq ≤ k) ∧ Drawn0 w w')
  case atStart => exact ⟨(0), (by first | rfl | (simp; done) | (simp [*]; done)), H', ⟨Nat.le_refl _⟩, by repeat (first | exact Drawn0.refl _ | apply Drawn0.step)⟩
  case round =>
    clear H'
    try clear p2
    obtain ⟨x8_1, rfl, HA, HK1, ⟨m1, rfl⟩⟩ := hrel
    cases gk with
    | zero => exact absurd HA.out (by simp [slices_Index_int_int.l0])
    | succ k1 =>
      have H := HA.out
      clear HA
      simp only [slices_Index_int_int.l0] at H
      by_cases c3 : x8_1 < (l0.length : Int)
      · rw [if_pos c3] at H
        have c3b0 : decide (x8_1 < (l0.length : Int)) = true := decide_eq_true c3
        clear c3
        by_cases c4 : 0 ≤ x8_1
        · rw [if_pos c4] at H
          have c4b0 : decide (0 ≤ x8_1) = true := decide_eq_true c4
          clear c4
          by_cases c5 : x8_1 < (l0.length : Int)
          · rw [if_pos c5] at H
            have c5b0 : decide (x8_1 < (l0.length : Int)) = true := decide_eq_true c5
            clear c5
            by_cases c6 : a1 = (rd l0 x8_1)
            · rw [if_pos c6] at H
              have c6b0 : (a1 == (rd l0 x8_1)) = true := beq_iff_eq.mpr c6
              have c6b1 : (a1 != (rd l0 x8_1)) = false := bne_eq_false_iff_eq.mpr c6
              clear c6
              obtain rfl := Option.some.inj H
              have p101 : 0 ≤ (x8_1 : Int) := of_decide_eq_true (by first | (with_reducible assumption) | assumption)
              have q101 : x8_1 < (l0.length : Int) := of_decide_eq_true (by first | (with_reducible assumption) | assumption)
              obtain ⟨ad101, e101, hx101_0⟩ := Kd.at_int HR0.out x8_1 p101 q101
              cases e101
              replace p101 := eq_true p101
              replace q101 := eq_true q101
              go_wp2
              go_ret
              exact ⟨by first | rfl | (simp; done) | (simp [*]; done), by repeat (first | exact Drawn0.refl _ | apply Drawn0.step)⟩
            · rw [if_neg c6] at H
              have c6b0 : (a1 == (rd l0 x8_1)) = false := beq_eq_false_iff_ne.mpr c6
              have c6b1 : (a1 != (rd l0 x8_1)) = true := bne_iff_ne.mpr c6
              have H' := Aside0.mk H
              clear H
              have p101 : 0 ≤ (x8_1 : Int) := of_decide_eq_true (by first | (with_reducible assumption) | assumption)
              have q101 : x8_1 < (l0.length : Int) := of_decide_eq_true (by first | (with_reducible assumption) | assumption)
              obtain ⟨ad101, e101, hx101_0⟩ := Kd.at_int HR0.out x8_1 p101 q101
              cases e101
              replace p101 := eq_true p101
              replace q101 := eq_true q101
              go_wp2
              go_roundg k1
              case measure => have := HK1.out; omega
              case rel => exact ⟨(wrap64 (x8_1 + 1)), (by first | rfl | (simp; done) | (simp [*]; done)), H', ⟨by have := HK1.out; omega⟩, by repeat (first | exact Drawn0.refl _ | apply Drawn0.step)⟩
          · rw [if_neg c5] at H
            exact absurd H (by simp)
        · rw [if_neg c4] at H
          exact absurd H (by simp)
      · rw [if_neg c3] at H
        have c3b0 : decide (x8_1 < (l0.length : Int)) = false := decide_eq_false c3
        clear c3
        obtain rfl := Option.some.inj H
        go_wp2
        go_ret
        exact ⟨by first | rfl | (simp; done) | (simp [*]; done), by repeat (first | exact Drawn0.refl _ | apply Drawn0.step)⟩
end Go.Proofs.Ytjbjofmcmjojlaa.Wk
end
section
namespace Go.Proofs.Ytjbjofmcmjojlaa.Wk
open Go.RowKit Go.Proofs.YtjbjofmcmjojlaaW.PrintWords Go.Proofs.YtjbjofmcmjojlaaW.PrintLast Go.Proofs.YtjbjofmcmjojlaaW.PrintMore
attribute [local go_sem] max2_int min2_int max_two min_two max_three min_three max_four min_four
set_option linter.unusedVariables false
set_option linter.unusedSimpArgs false
def slices_Contains_int_int.f (k : Nat) (l0 : List Int) (a1 : Int) : Option (Bool) := (slices_Index_int_int.f k l0 a1).bind fun t102 => (some (decide (t102 ≥ 0)))
set_option maxHeartbeats 8000000 in
set_option maxRecDepth 100000 in
theorem slices_Contains_int_int.calls (k : Nat) (A0 : Option Addr) (c0 : Nat) (l0 : List Int) (a1 : Int) (r : Bool) (w : World) (hr0 : Kd.C (Kd.int .i64) w A0 l0.length l0) (hc0 : l0.length ≤ c0) (h : slices_Contains_int_int.f k l0 a1 = some r) :
    Calls Try.prog 28 #[.slice A0 l0.length c0, .int .i64 a1] w fun e w' => e = .returned (.bool r) ∧ Drawn0 w w' := by
  have HR0 := Aside0.mk hr0
  have HC0 := Aside0.mk hc0
  clear hr0 hc0
  have H : ((slices_Index_int_int.f k l0 a1).bind fun t102 => (some (decide (t102 ≥ 0)))) = some r := h
  clear h
  replace H := Option.bind_eq_some_iff.mp H
  obtain ⟨t102, A30, H⟩ := H
  replace H : (some (decide (t102 ≥ 0))) = some r := H
  have A3 := Aside0.mk A30
  clear A30
  obtain rfl := Option.some.inj H
  go_enter Try.func28, Try.ntmps28
  go_wp2_with (first | ((with_reducible refine gate_callee (f := 38) rfl ?_); refine goesL_ (some 7) rfl rfl Try.func38 (by kernel_rfl) rfl #[.slice A0 l0.length c0, .int .i64 a1] rfl (by (try simp only [List.map_toArray, List.map_cons, List.map_nil]); first | done | rfl | (simp only [List.length_drop, List.length_take]; rfl)) ?_; (with_reducible refine (slices_Index_int_int.calls k _ _ l0 a1 t102 _ ?side1 ?side2 A3.out).mono ?_); (case side1 => repeat (first | exact HR0.out | (with_reducible refine Kd.C_alloc ?_ _) | (with_reducible refine Kd.C_drewN ?_ _) | (with_reducible refine Kd.C_drew ?_))); (case side2 => exact HC0.out); rintro e w' ⟨rfl, ⟨nd, rfl⟩⟩; refine ⟨_, rfl, ?_⟩))
  go_ret
  exact ⟨by first | rfl | (simp; done) | (simp [*]; done), by repeat (first | exact Drawn0.refl _ | apply Drawn0.step)⟩
theorem Contains_int_total (l : List Int) (x : Int) (hm : l.length ≤ maxLen) : slices_Contains_int_int.f (l.length + 1) l x = some (l.contains x) := by
  unfold maxLen at hm
  have aux : ∀ d k i : Nat, l.length - i = d → d < k → i ≤ l.length → slices_Index_int_int.l0 k l x (l.length : Int) i = some (idxFrom (fun y => y == x) l d i) := by
    intro d
    induction d with
    | zero =>
      intro k i h hk hi
      obtain ⟨k, rfl⟩ : ∃ m, k = m + 1 := ⟨k - 1, by omega⟩
      simp only [slices_Index_int_int.l0, idxFrom]
      rw [if_neg (by omega)]
    | succ d ih =>
      intro k i h hk hi
      obtain ⟨k, rfl⟩ : ∃ m, k = m + 1 := ⟨k - 1, by omega⟩
      simp only [slices_Index_int_int.l0, idxFrom]
      rw [if_pos (by omega), if_pos (by omega), if_pos (by omega)]
      have e : wrap64 ((i : Int) + 1) = ((i + 1 : Nat) : Int) := by unfold wrap64; omega
      rw [e, ih k (i + 1) (by omega) (by omega) (by omega)]
      by_cases hx : x = rd l i
      · rw [if_pos hx, if_pos (by simp [hx])]
      · rw [if_neg hx, if_neg (by simp; exact fun h => hx h.symm)]
  unfold slices_Contains_int_int.f slices_Index_int_int.f
  have h0 : slices_Index_int_int.l0 (l.length + 1) l x (l.length : Int) 0 = _ := aux l.length (l.length + 1) 0 (by omega) (by omega) (by omega)
  rw [h0]
  simp only [Option.bind_some]
  have := idxFrom_any (fun y => y == x) l
  rw [show (decide (idxFrom (fun y => y == x) l l.length 0 ≥ 0)) = decide (0 ≤ idxFrom (fun y => y == x) l l.length 0) from rfl, this]
  congr 1
  exact List.any_beq'
end Go.Proofs.Ytjbjofmcmjojlaa.Wk
end
section
namespace Go.Proofs.Ytjbjofmcmjojlaa.Wk
open Go.RowKit Go.Proofs.YtjbjofmcmjojlaaW.PrintWords Go.Proofs.YtjbjofmcmjojlaaW.PrintLast Go.Proofs.YtjbjofmcmjojlaaW.PrintMore
attribute [local go_sem] max2_int min2_int max_two min_two max_three min_three max_four min_four
set_option linter.unusedVariables false
set_option linter.unusedSimpArgs false
def badDim (x : Int) : Bool := decide (x < 0) || decide (1048576 < x)
theorem pred27 (w : World) : PredAt 27 #[] badDim w := by
  refine ⟨fun _ _ => rfl, fun x n => ?_⟩
  by_cases h : x < 0
  · go_enter Try.func27, Try.ntmps27
    go_wp2
    go_ret
    exact ⟨by simp [badDim, h], ⟨_, rfl⟩⟩
  · have h1 : decide (x < 0) = false := by simpa using h
    go_enter Try.func27, Try.ntmps27
    go_wp2
    go_ret
    exact ⟨by simp [badDim, h1], ⟨_, rfl⟩⟩
def prodLoop (l : List Int) : Nat → Nat → Int → Int × Int
  | 0, _, n => (n, 0)
  | d + 1, i, n => if n * rd l i > 1048576 then (0, 3) else prodLoop l d (i + 1) (n * rd l i)
def space_Elements.f (l0 : List Int) : Option (Int × Int) :=
  some (if 4 < l0.length ∨ l0.any badDim = true then (0, 2) else if l0.contains 0 = true then (0, 0) else prodLoop l0 l0.length 0 1)
theorem good_rd {l : List Int} (h : l.any badDim = false) (i : Nat) (hi : i < l.length) : 0 ≤ rd l i ∧ rd l i ≤ 1048576 := by
  have e : rd l (i : Int) = l[i] := by simp [rd, hi]
  rw [e]
  have := List.any_eq_false.1 h l[i] (List.getElem_mem hi)
  simp [badDim] at this
  omega
set_option maxHeartbeats 1000000 in
theorem space_Elements.calls (A0 : Option Addr) (c0 : Nat) (l0 : List Int) (r1 : Int) (r2 : Int) (w : World) (hr0 : Kd.C (Kd.int .i64) w A0 l0.length l0) (hc0 : l0.length ≤ c0) (h : space_Elements.f l0 = some (r1, r2)) :
    Calls Try.prog 11 #[.slice A0 l0.length c0] w fun e w' => e = .returned (.tuple #[.int .i64 r1, .int .i64 r2]) ∧ Drawn0 w w' := by
  unfold space_Elements.f at h
  replace h := Option.some.inj h
  have HR0 := Aside0.mk hr0
  have HC0 := Aside0.mk hc0
  clear hr0 hc0
  by_cases h4 : 4 < l0.length
  · rw [if_pos (.inl h4)] at h
    cases h
    have h4' : decide ((l0.length : Int) > 4) = true := by simp; omega
    have h4'' : decide (4 < l0.length) = true := by simp; omega
    go_enter Try.func11, Try.ntmps11
    go_wp2
    go_ret2
    exact ⟨rfl, ⟨0, rfl⟩⟩
  · have hm : l0.length ≤ maxLen := by unfold maxLen; omega
    have HM := Aside0.mk hm
    clear hm
    have h4' : decide ((l0.length : Int) > 4) = false := by simp; omega
    have h4'' : decide (4 < l0.length) = false := by simp; omega
    by_cases hb : l0.any badDim = true
    · rw [if_pos (.inr hb)] at h
      cases h
      have HB := Aside0.mk hb
      clear hb
      go_enter Try.func11, Try.ntmps11
      go_wp2_with (go_at_call 26; refine (ContainsFunc_int 27 #[] badDim _ _ l0 _ (pred27 _) HR0.out HM.out).mono ?_; rintro e w' ⟨rfl, ⟨n2, rfl⟩⟩; rw [HB.out])
      go_ret2
      exact ⟨rfl, ⟨_, rfl⟩⟩
    · have hb : l0.any badDim = false := by simpa using hb
      have HB := Aside0.mk hb
      clear hb
      have HC := Aside0.mk (Contains_int_total l0 0 HM.out)
      rw [if_neg (by rw [HB.out]; simp; omega)] at h
      by_cases hz : l0.contains 0 = true
      · rw [if_pos hz] at h
        cases h
        have HZ := Aside0.mk hz
        clear hz
        go_enter Try.func11, Try.ntmps11
        go_wp2_with (first
          | (go_at_call 26; refine (ContainsFunc_int 27 #[] badDim _ _ l0 _ (pred27 _) HR0.out HM.out).mono ?_; rintro e w' ⟨rfl, ⟨n2, rfl⟩⟩; rw [HB.out])
          | (go_at_call 28; refine (slices_Contains_int_int.calls (l0.length + 1) _ _ l0 0 _ _ (Kd.C_drewN HR0.out _) HC0.out HC.out).mono ?_; rintro e w' ⟨rfl, ⟨n3, rfl⟩⟩; rw [HZ.out]))
        go_ret2
        exact ⟨rfl, ⟨_, rfl⟩⟩
      · have hz : l0.contains 0 = false := by simpa using hz
        have HZ := Aside0.mk hz
        clear hz
        rw [HZ.out, if_neg (by simp)] at h
        have HH := Aside0.mk h
        clear h
        go_enter Try.func11, Try.ntmps11
        go_wp2_with (first
          | (go_at_call 26; refine (ContainsFunc_int 27 #[] badDim _ _ l0 _ (pred27 _) HR0.out HM.out).mono ?_; rintro e w' ⟨rfl, ⟨n2, rfl⟩⟩; rw [HB.out])
          | (go_at_call 28; refine (slices_Contains_int_int.calls (l0.length + 1) _ _ l0 0 _ _ (Kd.C_drewN HR0.out _) HC0.out HC.out).mono ?_; rintro e w' ⟨rfl, ⟨n3, rfl⟩⟩; rw [HZ.out]))
        go_loopw [4, 18] (fun v i wr => ∃ (k : Nat) (n : Int), k ≤ l0.length ∧ i = .int .i64 k ∧ v = .int .i64 n ∧ 0 ≤ n ∧ n ≤ 1048576 ∧ Aside0 (prodLoop l0 (l0.length - k) k n = (r1, r2)) ∧ Drawn0 w wr) (fun _ i _ => l0.length - (intOf i).toNat)
        case atStart => exact ⟨0, 1, Nat.zero_le _, rfl, rfl, by omega, by omega, HH, ⟨_, rfl⟩⟩
        case round =>
          obtain ⟨k, n, hk, rfl, rfl, hn0, hn1, HE, ⟨nd, rfl⟩⟩ := hrel
          by_cases hlt : k < l0.length
          · obtain ⟨ad, e1, hx0⟩ := Kd.at_int HR0.out k (by omega) (by omega)
            cases e1
            have hx : w.cell? (ad.add k) = some (Value.int IntKind.i64 (rd l0 k)) := by simpa using hx0
            clear hx0
            have hg := good_rd HB.out k hlt
            have HN : Aside0 ((if n * rd l0 k > 1048576 then (0, 3) else prodLoop l0 (l0.length - (k + 1)) (k + 1) (n * rd l0 k)) = (r1, r2)) := ⟨by
              rw [← HE.out, show l0.length - k = (l0.length - (k + 1)) + 1 by omega, prodLoop]⟩
            generalize rd l0 k = y at hx HN hg
            have hy1 : 0 ≤ n * y := Int.mul_nonneg hn0 hg.1
            have hy2 : n * y ≤ 1048576 * 1048576 := Int.mul_le_mul hn1 hg.2 hg.1 (by omega)
            have hy3 : wrap64 (n * y) = n * y := by unfold wrap64; omega
            by_cases hbig : n * y > 1048576
            · have HN' := HN.out
              rw [if_pos hbig] at HN'
              cases HN'
              go_wp2
              go_ret2
              exact ⟨rfl, ⟨_, rfl⟩⟩
            · have HN' := HN.out
              rw [if_neg hbig] at HN'
              have HN2 := Aside0.mk HN'
              clear HN HN'
              go_wp2
              go_roundw
              case rel => exact ⟨k + 1, n * y, by omega, by go_num, rfl, hy1, by omega, HN2, ⟨_, rfl⟩⟩
              case measure => simp [intOf]; omega
          · have HN : Aside0 ((n, (0 : Int)) = (r1, r2)) := ⟨by rw [← HE.out, show l0.length - k = 0 by omega, prodLoop]⟩
            have HN' := HN.out
            cases HN'
            go_wp2
            go_ret2
            exact ⟨rfl, ⟨_, rfl⟩⟩
end Go.Proofs.Ytjbjofmcmjojlaa.Wk
end
section
namespace Go.Proofs.Ytjbjofmcmjojlaa.Wk
open Go.RowKit Go.Proofs.YtjbjofmcmjojlaaW.PrintWords Go.Proofs.YtjbjofmcmjojlaaW.PrintLast Go.Proofs.YtjbjofmcmjojlaaW.PrintMore
attribute [local go_sem] max2_int min2_int max_two min_two max_three min_three max_four min_four
set_option linter.unusedVariables false
set_option linter.unusedSimpArgs false
def slices_Clone_int_int.f (l0 : List Int) : Option (List Int) := if l0.length * 8 ≤ 140737488355328 then some l0 else none
set_option maxHeartbeats 1000000 in
theorem slices_Clone_int_int.calls (A0 : Option Addr) (c0 : Nat) (l0 : List Int) (r : List Int) (w : World) (hr0 : Kd.C (Kd.int .i64) w A0 l0.length l0) (hc0 : l0.length ≤ c0) (h : slices_Clone_int_int.f l0 = some r) :
    Calls Try.prog 36 #[.slice A0 l0.length c0] w fun e w' => ∃ v0_ : Value, e = .returned (v0_) ∧ Kd.R (Kd.int .i64) 3 w' w.heap.size (fun _ => True) v0_ r ∧ Below w.heap.size w w' := by
  unfold slices_Clone_int_int.f at h
  split at h
  case isFalse => cases h
  case isTrue hl =>
  replace h := Option.some.inj h
  subst h
  have HR0 := Aside0.mk hr0
  have HL := Aside0.mk hl
  clear hl
  have hq := fun (w : World) (a : Option Addr) (l c : Nat) => Go.Lib.run_eql_slice_nil (P := Try.prog) w 22 3 a l c 0 0 Try.underlying22
  cases A0 with
  | none =>
    have h0 : l0 = [] := by
      cases l0 with
      | nil => rfl
      | cons a t => obtain ⟨ad, e1, _⟩ := Kd.at_int hr0 0 (by omega) (by simp); cases e1
    subst h0
    clear hr0
    go_enter Try.func36, Try.ntmps36
    go_wp2
    go_ret
    exact ⟨_, rfl, Kd.R_nil _ _ _ _ _, Below.refl _ _⟩
  | some ad =>
    clear hr0
    have HB := Aside0.mk (Below.refl w.heap.size w)
    go_enter Try.func36, Try.ntmps36
    go_wp2_with (first
      | ((with_reducible refine gate_dst (N := 5) rfl ?_); refine Kd.R_lit (Kd.int .i64) (w0 := w) w.heap.size 3 ?hg (N := 5) ?hd (xs := ([] : List Int)) (inner := []) (ok := fun _ => True) (okp := fun _ => True) ?hr ?hp (fun _ hk => hk) trivial (Below.refl _ _) (Nat.le_refl _) (by simp) ?_; (case hd => rfl); (case hg => rfl); (case hr => first | (go_simp; done) | (go_simp; rfl)); (case hp => exact Reps.none _ _); intro v1 w1 hr1 hb1 hg1 hex; have HR1 := Aside0.mk hr1; have HB1 := Aside0.mk hb1; clear hr1 hb1 hg1 hex)
      | ((with_reducible refine gate_dst (N := 7) rfl ?_); refine Kd.R_append_row (w0 := w) (Value.int .i64) (0 : Int) w.heap.size ?hg (.tmp 5) (.tmp 6) 22 3 (.int .i64 0) 8 ?ho Try.underlying22 (by kernel_rfl) rfl (by omega) v1 [] l0 (some ad) l0.length c0 (fun _ => True) ?hs ?hx (fun _ _ => trivial) HR1.out (Kd.C_below HR0.out HB1.out) HB1.out HB1.out.size (by simpa using HL.out) ?_; (case hg => rfl); (case ho => rfl); (case hs => rfl); (case hx => rfl); intro v2 w2 hr2 hb2 hg2 hat; have HR2 := Aside0.mk hr2; have HB2 := Aside0.mk hb2; clear hr2 hb2 hg2 hat))
    go_ret
    exact ⟨_, rfl, HR2.out, HB2.out⟩
end Go.Proofs.Ytjbjofmcmjojlaa.Wk
end
section
namespace Go.Proofs.Ytjbjofmcmjojlaa.Wk
open Go.RowKit Go.Proofs.YtjbjofmcmjojlaaW.PrintWords Go.Proofs.YtjbjofmcmjojlaaW.PrintLast Go.Proofs.YtjbjofmcmjojlaaW.PrintMore
attribute [local go_sem] max2_int min2_int max_two min_two max_three min_three max_four min_four
set_option linter.unusedVariables false
set_option linter.unusedSimpArgs false
theorem at_ints {w : World} {A : Option Addr} {n : Nat} {xs : List (List Int)} (h : Kd.C (Kd.slice 3 (Kd.int .i64)) w A n xs) (i : Nat) (h1 : i < n) :
    ∃ ad A0 c0, A = some ad ∧ w.cell? (ad.add i) = some (.slice A0 (xs.getD i []).length c0) ∧ (xs.getD i []).length ≤ c0 ∧ (Kd.int .i64).C w A0 (xs.getD i []).length (xs.getD i []) := by
  obtain ⟨ad, c, e, _, hK, hc0⟩ := Kd.C_get h ([] : List Int) i (by omega) (by omega)
  have hc : ∀ j u, c[j]? = some u → w.cell? (ad.add ((i : Int).toNat * 1 + j)) = some u := hc0
  obtain ⟨A0, c0, rfl, l0, g0⟩ := hK
  rw [Int.toNat_natCast] at l0 g0 hc
  exact ⟨ad, A0, c0, e, by have hq := hc 0 _ rfl; rwa [Nat.mul_one, Nat.add_zero] at hq, l0, g0⟩
def negDim (x : Int) : Bool := decide (x < 0)
theorem pred46 (w : World) : PredAt 46 #[] negDim w := by
  refine ⟨fun _ _ => rfl, fun x n => ?_⟩
  go_enter Try.func46, Try.ntmps46
  go_wp2
  go_ret
  exact ⟨rfl, ⟨_, rfl⟩⟩
def rightOne (a : Int) (l : List Int) : Bool := decide ((l.length : Int) = a) && !l.any negDim
def space_right.f (a0 : Int) (l1 : List (List Int)) : Option Bool :=
  if l1.length ≤ maxLen ∧ (∀ l ∈ l1, l.length ≤ maxLen) then some (l1.all (rightOne a0)) else none
theorem all_drop {α : Type} (p : α → Bool) (d : α) (l : List α) (k : Nat) (h : k < l.length) : (l.drop k).all p = (p (l.getD k d) && (l.drop (k + 1)).all p) := by
  rw [List.drop_eq_getElem_cons h, List.all_cons]
  simp [List.getD_eq_getElem?_getD, h]
set_option maxHeartbeats 1000000 in
theorem space_right.calls (a0 : Int) (A1 : Option Addr) (c1 : Nat) (l1 : List (List Int)) (r : Bool) (w : World) (hr1 : Kd.C (Kd.slice 3 (Kd.int .i64)) w A1 l1.length l1) (hc1 : l1.length ≤ c1) (h : space_right.f a0 l1 = some r) :
    Calls Try.prog 39 #[.int .i64 a0, .slice A1 l1.length c1] w fun e w' => e = .returned (.bool r) ∧ Drawn0 w w' := by
  unfold space_right.f at h
  split at h
  case isFalse => cases h
  case isTrue hl =>
  replace h := Option.some.inj h
  have HR1 := Aside0.mk hr1
  have HL := Aside0.mk hl.2
  have HH := Aside0.mk h
  have hm := hl.1
  unfold maxLen at hm
  clear hr1 hc1 hl h
  go_enter Try.func39, Try.ntmps39
  go_wp2
  go_loopw [6, 9] (fun _ i wr => ∃ (k : Nat), k ≤ l1.length ∧ i = .int .i64 k ∧ Aside0 ((l1.drop k).all (rightOne a0) = r) ∧ Drawn0 w wr) (fun _ i _ => l1.length - (intOf i).toNat)
  case atStart => exact ⟨0, Nat.zero_le _, rfl, HH, ⟨0, rfl⟩⟩
  case round =>
    obtain ⟨k, hk, rfl, HE, ⟨nd, rfl⟩⟩ := hrel
    by_cases hlt : k < l1.length
    · obtain ⟨ad, A0, c0, e1, hx, hcc, hC⟩ := at_ints HR1.out k hlt
      cases e1
      have HC := Aside0.mk hC
      clear hC
      have hmem : l1.getD k [] ∈ l1 := by simp [List.getD_eq_getElem?_getD, hlt]
      have HM := Aside0.mk (HL.out _ hmem)
      have HN : Aside0 ((rightOne a0 (l1.getD k []) && (l1.drop (k + 1)).all (rightOne a0)) = r) := ⟨by rw [← HE.out, all_drop _ [] _ _ hlt]⟩
      clear hmem
      generalize l1.getD k [] = y at hx HC HN HM hcc
      have hym := HM.out
      unfold maxLen at hym
      by_cases hlen : (y.length : Int) = a0
      · have h1 : ((y.length : Int) == a0) = true := by simpa using hlen
        have h2 : ((y.length : Int) != a0) = false := by simpa using hlen
        clear hlen
        cases hb : y.any negDim with
        | true =>
          have HB := Aside0.mk hb
          have HN' := HN.out
          rw [rightOne, HB.out] at HN'
          simp at HN'
          subst HN'
          clear hb
          go_wp2_with (go_at_call 26; refine (ContainsFunc_int 46 #[] negDim _ _ y _ (pred46 _) (Kd.C_drewN HC.out _) HM.out).mono ?_; rintro e w' ⟨rfl, ⟨n2, rfl⟩⟩; rw [HB.out])
          go_ret
          exact ⟨rfl, ⟨_, by first | rfl | simp⟩⟩
        | false =>
          have HB := Aside0.mk hb
          have HN2 : Aside0 ((l1.drop (k + 1)).all (rightOne a0) = r) := ⟨by
            have := HN.out
            rw [rightOne, HB.out] at this
            simpa [of_decide_eq_true, (beq_iff_eq.1 h1)] using this⟩
          clear hb
          go_wp2_with (go_at_call 26; refine (ContainsFunc_int 46 #[] negDim _ _ y _ (pred46 _) (Kd.C_drewN HC.out _) HM.out).mono ?_; rintro e w' ⟨rfl, ⟨n2, rfl⟩⟩; rw [HB.out])
          go_roundw
          case rel => exact ⟨k + 1, by omega, by go_num, HN2, ⟨_, by first | rfl | simp⟩⟩
          case measure => simp [intOf]; omega
      · have h1 : ((y.length : Int) == a0) = false := by simpa using hlen
        have h2 : ((y.length : Int) != a0) = true := by simpa using hlen
        have HN' := HN.out
        simp [rightOne, hlen] at HN'
        subst HN'
        clear hlen
        go_wp2
        go_ret
        exact ⟨rfl, ⟨_, rfl⟩⟩
    · have HN' := HE.out
      rw [List.drop_eq_nil_of_le (by omega)] at HN'
      simp at HN'
      subst HN'
      go_wp2
      go_ret
      exact ⟨rfl, ⟨_, rfl⟩⟩
end Go.Proofs.Ytjbjofmcmjojlaa.Wk
end
section
namespace Go.Proofs.Ytjbjofmcmjojlaa.Wk
open Go.RowKit Go.Proofs.YtjbjofmcmjojlaaW.PrintWords Go.Proofs.YtjbjofmcmjojlaaW.PrintLast Go.Proofs.YtjbjofmcmjojlaaW.PrintMore
attribute [local go_sem] max2_int min2_int max_two min_two max_three min_three max_four min_four
set_option linter.unusedVariables false
set_option linter.unusedSimpArgs false
def manyLoop (l : List Int) : Nat → Nat → Int → Int
  | 0, _, n => n
  | d + 1, i, n => if rd l i > 4096 / n then 4097 else manyLoop l d (i + 1) (n * rd l i)
def space_many.f (a0 : Int) (l1 : List Int) : Option Int :=
  if a0 = 1 ∧ l1.length ≤ maxLen ∧ l1.any negDim = false then some (if l1.contains 0 = true then 0 else manyLoop l1 l1.length 0 1) else none
theorem pos_rd {l : List Int} (h : l.any negDim = false) (hz : l.contains 0 = false) (i : Nat) (hi : i < l.length) : 1 ≤ rd l i := by
  have e : rd l (i : Int) = l[i] := by simp [rd, hi]
  rw [e]
  have h1 := List.any_eq_false.1 h l[i] (List.getElem_mem hi)
  have h2 : l[i] ≠ 0 := fun e0 => by
    have h3 : (0 : Int) ∈ l := by rw [← e0]; exact List.getElem_mem hi
    rw [List.contains_iff_mem.2 h3] at hz
    cases hz
  simp [negDim] at h1
  omega
set_option maxHeartbeats 1000000 in
theorem space_many.calls (a0 : Int) (A1 : Option Addr) (c1 : Nat) (l1 : List Int) (r : Int) (w : World) (hr1 : Kd.C (Kd.int .i64) w A1 l1.length l1) (hc1 : l1.length ≤ c1) (h : space_many.f a0 l1 = some r) :
    Calls Try.prog 40 #[.int .i64 a0, .slice A1 l1.length c1] w fun e w' => e = .returned (.int .i64 r) ∧ Drawn0 w w' := by
  unfold space_many.f at h
  split at h
  case isFalse => cases h
  case isTrue hl =>
  obtain ⟨rfl, hm, hng⟩ := hl
  replace h := Option.some.inj h
  have HR1 := Aside0.mk hr1
  have HC1 := Aside0.mk hc1
  have HN := Aside0.mk hng
  have HM := Aside0.mk hm
  have HC := Aside0.mk (Contains_int_total l1 0 HM.out)
  clear hr1 hc1 hm hng
  cases hz : l1.contains 0 with
  | true =>
    have HZ := Aside0.mk hz
    rw [HZ.out, if_pos rfl] at h
    subst h
    clear hz
    go_enter Try.func40, Try.ntmps40
    go_wp2_with (go_at_call 28; refine (slices_Contains_int_int.calls (l1.length + 1) _ _ l1 0 _ _ HR1.out HC1.out HC.out).mono ?_; rintro e w' ⟨rfl, ⟨n3, rfl⟩⟩; rw [HZ.out])
    go_ret
    exact ⟨rfl, ⟨_, rfl⟩⟩
  | false =>
    have HZ := Aside0.mk hz
    rw [HZ.out, if_neg (by simp)] at h
    have HH := Aside0.mk h
    have hm := HM.out
    unfold maxLen at hm
    clear hz h
    go_enter Try.func40, Try.ntmps40
    go_wp2_with (go_at_call 28; refine (slices_Contains_int_int.calls (l1.length + 1) _ _ l1 0 _ _ HR1.out HC1.out HC.out).mono ?_; rintro e w' ⟨rfl, ⟨n3, rfl⟩⟩; rw [HZ.out])
    go_loopw [0, 15] (fun v i wr => ∃ (k : Nat) (n : Int), k ≤ l1.length ∧ i = .int .i64 k ∧ v = .int .i64 n ∧ 1 ≤ n ∧ n ≤ 4096 ∧ Aside0 (manyLoop l1 (l1.length - k) k n = r) ∧ Drawn0 w wr) (fun _ i _ => l1.length - (intOf i).toNat)
    case atStart => exact ⟨0, 1, Nat.zero_le _, rfl, rfl, by omega, by omega, HH, ⟨_, rfl⟩⟩
    case round =>
      obtain ⟨k, n, hk, rfl, rfl, hn0, hn1, HE, ⟨nd, rfl⟩⟩ := hrel
      by_cases hlt : k < l1.length
      · obtain ⟨ad, e1, hx0⟩ := Kd.at_int HR1.out k (by omega) (by omega)
        cases e1
        have hx : w.cell? (ad.add k) = some (Value.int IntKind.i64 (rd l1 k)) := by simpa using hx0
        clear hx0
        have hg := pos_rd HN.out HZ.out k hlt
        have HN2 : Aside0 ((if rd l1 k > 4096 / n then 4097 else manyLoop l1 (l1.length - (k + 1)) (k + 1) (n * rd l1 k)) = r) := ⟨by
          rw [← HE.out, show l1.length - k = (l1.length - (k + 1)) + 1 by omega, manyLoop]⟩
        generalize rd l1 k = y at hx HN2 hg
        have hq0 : 0 ≤ 4096 / n := Int.ediv_nonneg (by omega) (by omega)
        have hq1 : 4096 / n ≤ 4096 := Int.ediv_le_self _ (by omega)
        by_cases hbig : y > 4096 / n
        · have HN' := HN2.out
          rw [if_pos hbig] at HN'
          subst HN'
          have hb2 : 4096 / n < y := hbig
          clear hbig
          go_wp2
          go_ret
          exact ⟨rfl, ⟨_, rfl⟩⟩
        · have HN' := HN2.out
          rw [if_neg hbig] at HN'
          have HN3 := Aside0.mk HN'
          clear HN2 HN'
          have hp1 : y ≤ 4096 / n := by omega
          have hp2 : n * y ≤ n * (4096 / n) := Int.mul_le_mul_of_nonneg_left hp1 (by omega)
          have hp3 : n * (4096 / n) ≤ 4096 := Int.mul_ediv_self_le (by omega)
          have hp4 : 1 * 1 ≤ n * y := Int.mul_le_mul hn0 hg (by omega) (by omega)
          have hp5 : n * y ≤ 4096 := Int.le_trans hp2 hp3
          clear hp2 hp3 hbig
          have hw : wrap64 (n * y) = n * y := by unfold wrap64; omega
          go_wp2
          go_roundw
          case rel => exact ⟨k + 1, n * y, by omega, by go_num, rfl, by omega, by omega, HN3, ⟨_, rfl⟩⟩
          case measure => simp [intOf]; omega
      · have HN' := HE.out
        rw [show l1.length - k = 0 by omega, manyLoop] at HN'
        subst HN'
        go_wp2
        go_ret
        exact ⟨rfl, ⟨_, rfl⟩⟩
end Go.Proofs.Ytjbjofmcmjojlaa.Wk
end
section
namespace Go.Proofs.Ytjbjofmcmjojlaa.Wk
open Go.RowKit Go.Proofs.YtjbjofmcmjojlaaW.PrintWords Go.Proofs.YtjbjofmcmjojlaaW.PrintLast Go.Proofs.YtjbjofmcmjojlaaW.PrintMore
attribute [local go_sem] max2_int min2_int max_two min_two max_three min_three max_four min_four
set_option linter.unusedVariables false
set_option linter.unusedSimpArgs false
def space_beyond.f (a0 : Int) (a1 : Int) (a2 : Int) (a3 : Int) (a4 : Int) : Option (Bool) := if (wrap64 (a0 - a1)) < a4 then (some true) else (if a2 > 0 then (if a2 = 0 then (none) else (some (decide ((wrap64 (a3 - 1)) > (wrap64 (Int.tdiv (wrap64 ((wrap64 (a0 - a1)) - a4)) a2)))))) else (some false))
set_option maxHeartbeats 8000000 in
set_option maxRecDepth 100000 in
theorem space_beyond.calls (a0 : Int) (a1 : Int) (a2 : Int) (a3 : Int) (a4 : Int) (r : Bool) (w : World) (h : space_beyond.f a0 a1 a2 a3 a4 = some r) :
    Calls Try.prog 41 #[.int .i64 a0, .int .i64 a1, .int .i64 a2, .int .i64 a3, .int .i64 a4] w fun e w' => e = .returned (.bool r) ∧ Drawn0 w w' := by
  have H : (if (wrap64 (a0 - a1)) < a4 then (some true) else (if a2 > 0 then (if a2 = 0 then (none) else (some (decide ((wrap64 (a3 - 1)) > (wrap64 (Int.tdiv (wrap64 ((wrap64 (a0 - a1)) - a4)) a2)))))) else (some false))) = some r := h
  clear h
  by_cases c6 : (wrap64 (a0 - a1)) < a4
  · rw [if_pos c6] at H
    have c6b0 : decide ((wrap64 (a0 - a1)) < a4) = true := decide_eq_true c6
    clear c6
    obtain rfl := Option.some.inj H
    go_enter Try.func41, Try.ntmps41
    go_wp2
    go_ret
    exact ⟨by first | rfl | (simp; done) | (simp [*]; done), by repeat (first | exact Drawn0.refl _ | apply Drawn0.step)⟩
  · rw [if_neg c6] at H
    have c6b0 : decide ((wrap64 (a0 - a1)) < a4) = false := decide_eq_false c6
    clear c6
    by_cases c7 : a2 > 0
    · rw [if_pos c7] at H
      have c7b0 : decide (0 < a2) = true := decide_eq_true c7
      clear c7
      by_cases c8 : a2 = 0
      · rw [if_pos c8] at H
        exact absurd H (by simp)
      · rw [if_neg c8] at H
        have c8b0 : (a2 == 0) = false := beq_eq_false_iff_ne.mpr c8
        have c8b1 : (a2 != 0) = true := bne_iff_ne.mpr c8
        obtain rfl := Option.some.inj H
        go_enter Try.func41, Try.ntmps41
        go_wp2
        go_ret
        exact ⟨by first | rfl | (simp; done) | (simp [*]; done), by repeat (first | exact Drawn0.refl _ | apply Drawn0.step)⟩
    · rw [if_neg c7] at H
      have c7b0 : decide (0 < a2) = false := decide_eq_false c7
      clear c7
      obtain rfl := Option.some.inj H
      go_enter Try.func41, Try.ntmps41
      go_wp2
      go_ret
      exact ⟨by first | rfl | (simp; done) | (simp [*]; done), by repeat (first | exact Drawn0.refl _ | apply Drawn0.step)⟩
end Go.Proofs.Ytjbjofmcmjojlaa.Wk
end
section
namespace Go.Proofs.Ytjbjofmcmjojlaa.Wk
open Go.RowKit Go.Proofs.YtjbjofmcmjojlaaW.PrintWords Go.Proofs.YtjbjofmcmjojlaaW.PrintLast Go.Proofs.YtjbjofmcmjojlaaW.PrintMore
attribute [local go_sem] max2_int min2_int max_two min_two max_three min_three max_four min_four
set_option linter.unusedVariables false
set_option linter.unusedSimpArgs false
mutual
def space_measured.j0 : Nat → List Int → Int → Bool → Int → List (List Int) → List Int → List Int → List Int → List Int → Option (Int × Int)
 | 0, _, _, _, _, _, _, _, _, _ => none
 | k + 1, x0, x8, x28, x108000, x108001, x108002, x108003, x108004, x108005 => if x28 = true then (space_measured.l0 k x0 (x108001.length : Int) x108001 (x108001.length : Int) 0) else (if x108000 = 3 then ((space_right.f x8 (([x108002, x108003, x108004, x108005] : List (List Int)))).bind fun t117 => (space_measured.j3 k x0 t117 x108000 x108001 x108002 x108003 x108004 x108005)) else (space_measured.j3 k x0 false x108000 x108001 x108002 x108003 x108004 x108005))
def space_measured.l0 : Nat → List Int → Int → List (List Int) → Int → Int → Option (Int × Int)
 | 0, _, _, _, _, _ => none
 | k + 1, x0, x6, x42, x43, x44 => if x44 < x43 then (if 0 ≤ x44 then (if x44 < (x42.length : Int) then (space_measured.l1 k x0 x6 x42 x43 x44 (rd_L1 x42 x44) ((rd_L1 x42 x44).length : Int) 0) else (none)) else (none)) else (if x6 > 4096 then (some (0, 18)) else (some (x6, 0)))
def space_measured.l1 : Nat → List Int → Int → List (List Int) → Int → Int → List Int → Int → Int → Option (Int × Int)
 | 0, _, _, _, _, _, _, _, _ => none
 | k + 1, x0, x6, x42, x43, x44, x48, x49, x50 => if x50 < x49 then (if 0 ≤ x50 then (if x50 < (x48.length : Int) then (if x50 < (x0.length : Int) then (if (rd x48 x50) ≥ (rd x0 x50) then (some (0, 17)) else (space_measured.l1 k x0 x6 x42 x43 x44 x48 x49 (wrap64 (x50 + 1)))) else (none)) else (none)) else (none)) else (space_measured.l0 k x0 x6 x42 x43 (wrap64 (x44 + 1)))
def space_measured.j3 : Nat → List Int → Bool → Int → List (List Int) → List Int → List Int → List Int → List Int → Option (Int × Int)
 | 0, _, _, _, _, _, _, _, _ => none
 | k + 1, x0, x63, x108000, x108001, x108002, x108003, x108004, x108005 => if x63 = true then ((slices_Clone_int_int.f x108004).bind fun t118 => (if t118.length + x108005.length < 17592186044416 then ((space_many.f 1 (t118 ++ x108005)).bind fun t124 => (space_measured.l2 k x0 t124 (x0.length : Int) 0 x108000 x108001 x108002 x108003 x108004 x108005)) else (none))) else (some (0, 2))
def space_measured.l2 : Nat → List Int → Int → Int → Int → Int → List (List Int) → List Int → List Int → List Int → List Int → Option (Int × Int)
 | 0, _, _, _, _, _, _, _, _, _, _ => none
 | k + 1, x0, x6, x88, x89, x108000, x108001, x108002, x108003, x108004, x108005 => if x89 < x88 then (if x6 > 0 then (if 0 ≤ x89 then (if x89 < (x0.length : Int) then (if x89 < (x108002.length : Int) then (if x89 < (x108003.length : Int) then (if x89 < (x108004.length : Int) then (if x89 < (x108005.length : Int) then ((space_beyond.f (rd x0 x89) (rd x108002 x89) (rd x108003 x89) (rd x108004 x89) (rd x108005 x89)).bind fun t130 => (if t130 = true then (some (0, 17)) else (space_measured.l2 k x0 x6 x88 (wrap64 (x89 + 1)) x108000 x108001 x108002 x108003 x108004 x108005))) else (none)) else (none)) else (none)) else (none)) else (none)) else (none)) else (space_measured.l2 k x0 x6 x88 (wrap64 (x89 + 1)) x108000 x108001 x108002 x108003 x108004 x108005)) else (if x6 > 4096 then (some (0, 18)) else (some (x6, 0)))
end
def space_measured.f (k : Nat) (l0 : List Int) (a1_0 : Int) (l1_1 : List (List Int)) (l1_2 : List Int) (l1_3 : List Int) (l1_4 : List Int) (l1_5 : List Int) : Option (Int × Int) := (space_Elements.f l0).bind fun bt108 => (if bt108.2 = 0 then (if a1_0 = 1 then (if bt108.1 > 4096 then (some (0, 18)) else (some (bt108.1, 0))) else (if a1_0 = 2 then ((space_right.f (l0.length : Int) l1_1).bind fun t110 => (space_measured.j0 k l0 (l0.length : Int) t110 a1_0 l1_1 l1_2 l1_3 l1_4 l1_5)) else (space_measured.j0 k l0 (l0.length : Int) false a1_0 l1_1 l1_2 l1_3 l1_4 l1_5))) else (some (0, bt108.2)))
theorem space_measured.mono_l : ∀ k, (∀ y0 y1 y2 y3 y4 y5 y6 y7 y8, LeO (space_measured.j0 k y0 y1 y2 y3 y4 y5 y6 y7 y8) (space_measured.j0 (k + 1) y0 y1 y2 y3 y4 y5 y6 y7 y8)) ∧ (∀ y0 y1 y2 y3 y4, LeO (space_measured.l0 k y0 y1 y2 y3 y4) (space_measured.l0 (k + 1) y0 y1 y2 y3 y4)) ∧ (∀ y0 y1 y2 y3 y4 y5 y6 y7, LeO (space_measured.l1 k y0 y1 y2 y3 y4 y5 y6 y7) (space_measured.l1 (k + 1) y0 y1 y2 y3 y4 y5 y6 y7)) ∧ (∀ y0 y1 y2 y3 y4 y5 y6 y7, LeO (space_measured.j3 k y0 y1 y2 y3 y4 y5 y6 y7) (space_measured.j3 (k + 1) y0 y1 y2 y3 y4 y5 y6 y7)) ∧ (∀ y0 y1 y2 y3 y4 y5 y6 y7 y8 y9, LeO (space_measured.l2 k y0 y1 y2 y3 y4 y5 y6 y7 y8 y9) (space_measured.l2 (k + 1) y0 y1 y2 y3 y4 y5 y6 y7 y8 y9))
 | 0 => ⟨fun _ _ _ _ _ _ _ _ _ r h => by simp [space_measured.j0] at h, fun _ _ _ _ _ r h => by simp [space_measured.l0] at h, fun _ _ _ _ _ _ _ _ r h => by simp [space_measured.l1] at h, fun _ _ _ _ _ _ _ _ r h => by simp [space_measured.j3] at h, fun _ _ _ _ _ _ _ _ _ _ r h => by simp [space_measured.l2] at h⟩
 | k + 1 => by
  obtain ⟨ih0, ih1, ih2, ih3, ih4⟩ := space_measured.mono_l k
  refine ⟨?_, ?_, ?_, ?_, ?_⟩
  ·intro y0 y1 y2 y3 y4 y5 y6 y7 y8
   unfold space_measured.j0
   repeat' first
   | (with_reducible exact ih0 _ _ _ _ _ _ _ _ _)
   | (with_reducible exact ih1 _ _ _ _ _)
   | (with_reducible exact ih2 _ _ _ _ _ _ _ _)
   | (with_reducible exact ih3 _ _ _ _ _ _ _ _)
   | (with_reducible exact ih4 _ _ _ _ _ _ _ _ _ _)
   | (with_reducible exact LeO.refl _)
   | (with_reducible exact LeO.none _)
   | (with_reducible refine LeO.ite ?_ ?_)
   | (with_reducible refine LeO.bind ?_ (fun _ => ?_))
   | exact ih0 _ _ _ _ _ _ _ _ _
   | exact ih1 _ _ _ _ _
   | exact ih2 _ _ _ _ _ _ _ _
   | exact ih3 _ _ _ _ _ _ _ _
   | exact ih4 _ _ _ _ _ _ _ _ _ _
   | exact LeO.none _
   | refine LeO.ite ?_ ?_
   | refine LeO.bind ?_ (fun _ => ?_)
  ·intro y0 y1 y2 y3 y4
   unfold space_measured.l0
   repeat' first
   | (with_reducible exact ih0 _ _ _ _ _ _ _ _ _)
   | (with_reducible exact ih1 _ _ _ _ _)
   | (with_reducible exact ih2 _ _ _ _ _ _ _ _)
   | (with_reducible exact ih3 _ _ _ _ _ _ _ _)
   | (with_reducible exact ih4 _ _ _ _ _ _ _ _ _ _)
   | (with_reducible exact LeO.refl _)
   | (with_reducible exact LeO.none _)
   | (with_reducible refine LeO.ite ?_ ?_)
   | (with_reducible refine LeO.bind ?_ (fun _ => ?_))
   | exact ih0 _ _ _ _ _ _ _ _ _
   | exact ih1 _ _ _ _ _
   | exact ih2 _ _ _ _ _ _ _ _
   | exact ih3 _ _ _ _ _ _ _ _
   | exact ih4 _ _ _ _ _ _ _ _ _ _
   | exact LeO.none _
   | refine LeO.ite ?_ ?_
   | refine LeO.bind ?_ (fun _ => ?_)
  ·intro y0 y1 y2 y3 y4 y5 y6 y7
   unfold space_measured.l1
   repeat' first
   | (with_reducible exact ih0 _ _ _ _ _ _ _ _ _)
   | (with_reducible exact ih1 _ _ _ _ _)
   | (with_reducible exact ih2 _ _ _ _ _ _ _ _)
   | (with_reducible exact ih3 _ _ _ _ _ _ _ _)
   | (with_reducible exact ih4 _ _ _ _ _ _ _ _ _ _)
   | (with_reducible exact LeO.refl _)
   | (with_reducible exact LeO.none _)
   | (with_reducible refine LeO.ite ?_ ?_)
   | (with_reducible refine LeO.bind ?_ (fun _ => ?_))
   | exact ih0 _ _ _ _ _ _ _ _ _
   | exact ih1 _ _ _ _ _
   | exact ih2 _ _ _ _ _ _ _ _
   | exact ih3 _ _ _ _ _ _ _ _
   | exact ih4 _ _ _ _ _ _ _ _ _ _
   | exact LeO.none _
   | refine LeO.ite ?_ ?_
   | refine LeO.bind ?_ (fun _ => ?_)
  ·intro y0 y1 y2 y3 y4 y5 y6 y7
   unfold space_measured.j3
   repeat' first
   | (with_reducible exact ih0 _ _ _ _ _ _ _ _ _)
   | (with_reducible exact ih1 _ _ _ _ _)
   | (with_reducible exact ih2 _ _ _ _ _ _ _ _)
   | (with_reducible exact ih3 _ _ _ _ _ _ _ _)
   | (with_reducible exact ih4 _ _ _ _ _ _ _ _ _ _)
   | (with_reducible exact LeO.refl _)
   | (with_reducible exact LeO.none _)
   | (with_reducible refine LeO.ite ?_ ?_)
   | (with_reducible refine LeO.bind ?_ (fun _ => ?_))
   | exact ih0 _ _ _ _ _ _ _ _ _
   | exact ih1 _ _ _ _ _
   | exact ih2 _ _ _ _ _ _ _ _
   | exact ih3 _ _ _ _ _ _ _ _
   | exact ih4 _ _ _ _ _ _ _ _ _ _
   | exact LeO.none _
   | refine LeO.ite ?_ ?_
   | refine LeO.bind ?_ (fun _ => ?_)
  intro y0 y1 y2 y3 y4 y5 y6 y7 y8 y9
  unfold space_measured.l2
  repeat' first
  | (with_reducible exact ih0 _ _ _ _ _ _ _ _ _)
  | (with_reducible exact ih1 _ _ _ _ _)
  | (with_reducible exact ih2 _ _ _ _ _ _ _ _)
  | (with_reducible exact ih3 _ _ _ _ _ _ _ _)
  | (with_reducible exact ih4 _ _ _ _ _ _ _ _ _ _)
  | (with_reducible exact LeO.refl _)
  | (with_reducible exact LeO.none _)
  | (with_reducible refine LeO.ite ?_ ?_)
  | (with_reducible refine LeO.bind ?_ (fun _ => ?_))
  | exact ih0 _ _ _ _ _ _ _ _ _
  | exact ih1 _ _ _ _ _
  | exact ih2 _ _ _ _ _ _ _ _
  | exact ih3 _ _ _ _ _ _ _ _
  | exact ih4 _ _ _ _ _ _ _ _ _ _
  | exact LeO.none _
  | refine LeO.ite ?_ ?_
  | refine LeO.bind ?_ (fun _ => ?_)
theorem space_measured.mono : ∀ a0 a1 a2 a3 a4 a5 a6 k, LeO (space_measured.f k a0 a1 a2 a3 a4 a5 a6) (space_measured.f (k + 1) a0 a1 a2 a3 a4 a5 a6) := by
 intro a0 a1 a2 a3 a4 a5 a6 k
 obtain ⟨ih0, ih1, ih2, ih3, ih4⟩ := space_measured.mono_l k
 unfold space_measured.f
 repeat' first
  | (with_reducible exact ih0 _ _ _ _ _ _ _ _ _)
  | (with_reducible exact ih1 _ _ _ _ _)
  | (with_reducible exact ih2 _ _ _ _ _ _ _ _)
  | (with_reducible exact ih3 _ _ _ _ _ _ _ _)
  | (with_reducible exact ih4 _ _ _ _ _ _ _ _ _ _)
  | (with_reducible exact LeO.refl _)
  | (with_reducible exact LeO.none _)
  | (with_reducible refine LeO.ite ?_ ?_)
  | (with_reducible refine LeO.bind ?_ (fun _ => ?_))
  | exact ih0 _ _ _ _ _ _ _ _ _
  | exact ih1 _ _ _ _ _
  | exact ih2 _ _ _ _ _ _ _ _
  | exact ih3 _ _ _ _ _ _ _ _
  | exact ih4 _ _ _ _ _ _ _ _ _ _
  | exact LeO.none _
  | refine LeO.ite ?_ ?_
  | refine LeO.bind ?_ (fun _ => ?_)
def space_measured.T20 : Bool × List (List Nat × List Nat) := (true, [([], []), ([0], [0]), ([1], [1]), ([], []), ([3], [3]), ([2, 4, 2], [2, 4]), ([5, 5], [5]), ([6, 6, 0, 1, 2, 3, 4, 5, 6], [6])])
def space_measured.B20 : List Nat := [0, 1, 3, 0, 8, 31, 63, 127]
theorem space_measured.tab20 : rtab .any (opsOf Try.f30 20) = space_measured.T20 := by kernel_rfl
theorem space_measured.bits20 : waitsOk space_measured.T20.2 space_measured.B20 = true := by kernel_rfl
def space_measured.T24 : Bool × List (List Nat × List Nat) := (true, [([], []), ([0], [0]), ([1], [1]), ([2], [2]), ([2], [2]), ([3, 4, 2], [2, 3, 4]), ([5, 2], [2, 5]), ([2], [2]), ([7, 2], [2, 7]), ([2], [2]), ([8, 9, 2], [2, 8, 9]), ([10, 2], [2, 10]), ([2], [2]), ([12, 2], [2, 12]), ([2], [2]), ([13, 14, 2], [2, 13, 14]), ([15, 2], [2, 15]), ([2], [2]), ([17, 2], [2, 17]), ([2], [2]), ([18, 19, 2], [2, 18, 19]), ([20, 2], [2, 20]), ([2], [2]), ([22, 2], [2, 22]), ([2], [2]), ([23, 24, 2], [2, 23, 24]), ([25, 2], [2, 25]), ([6, 11, 16, 21, 26, 2, 2], [2, 6, 11, 16, 21, 26]), ([2, 27], [2, 27])])
def space_measured.B24 : List Nat := [0, 1, 3, 7, 7, 31, 63, 7, 135, 7, 903, 1927, 7, 4103, 7, 28679, 61447, 7, 131079, 7, 917511, 1966087, 7, 4194311, 7, 29360135, 62914567, 134217727, 268435455]
theorem space_measured.tab24 : rtab .any (opsOf Try.f30 24) = space_measured.T24 := by kernel_rfl
theorem space_measured.bits24 : waitsOk space_measured.T24.2 space_measured.B24 = true := by kernel_rfl
set_option maxHeartbeats 8000000 in
set_option maxRecDepth 100000 in
theorem space_measured.calls (k : Nat) (A0 : Option Addr) (c0 : Nat) (l0 : List Int) (a1_0 : Int) (A1_1 : Option Addr) (c1_1 : Nat) (l1_1 : List (List Int)) (P1_2_ : Nat → Prop) (A1_2 : Option Addr) (c1_2 : Nat) (l1_2 : List Int) (P1_3_ : Nat → Prop) (A1_3 : Option Addr) (c1_3 : Nat) (l1_3 : List Int) (P1_4_ : Nat → Prop) (A1_4 : Option Addr) (c1_4 : Nat) (l1_4 : List Int) (P1_5_ : Nat → Prop) (A1_5 : Option Addr) (c1_5 : Nat) (l1_5 : List Int) (r1 : Int) (r2 : Int) (w : World) (hr0 : Kd.C (Kd.int .i64) w A0 l0.length l0) (hc0 : l0.length ≤ c0) (hr1_1 : Kd.C (Kd.slice 3 (Kd.int .i64)) w A1_1 l1_1.length l1_1) (hc1_1 : l1_1.length ≤ c1_1) (hs1_2 : Kd.V (Kd.int .i64) 3 w w.heap.size (fun k_ => P1_2_ k_) (.slice A1_2 l1_2.length c1_2) l1_2) (hs1_3 : Kd.V (Kd.int .i64) 3 w w.heap.size (fun k_ => P1_3_ k_) (.slice A1_3 l1_3.length c1_3) l1_3) (hs1_4 : Kd.V (Kd.int .i64) 3 w w.heap.size (fun k_ => P1_4_ k_) (.slice A1_4 l1_4.length c1_4) l1_4) (hs1_5 : Kd.V (Kd.int .i64) 3 w w.heap.size (fun k_ => P1_5_ k_) (.slice A1_5 l1_5.length c1_5) l1_5) (h : space_measured.f k l0 a1_0 l1_1 l1_2 l1_3 l1_4 l1_5 = some (r1, r2)) :
 Calls Try.prog 30 #[.slice A0 l0.length c0, .agg #[.int .i64 a1_0, .slice A1_1 l1_1.length c1_1, .slice A1_2 l1_2.length c1_2, .slice A1_3 l1_3.length c1_3, .slice A1_4 l1_4.length c1_4, .slice A1_5 l1_5.length c1_5]] w fun e w' => e = .returned (.tuple #[.int .i64 r1, .int .i64 r2]) ∧ Below w.heap.size w w' := by
 have hu33 := Try.underlying33
 have HR0 := Aside0.mk hr0
 have HC0 := Aside0.mk hc0
 clear hr0 hc0
 have HR1_1 := Aside0.mk hr1_1
 have HC1_1 := Aside0.mk hc1_1
 clear hr1_1 hc1_1
 have HO1_2 := Aside0.mk (show Kd.V (Kd.int .i64) 3 w w.heap.size (fun k_ => ((P1_2_ k_ ∨ P1_3_ k_ ∨ P1_4_ k_ ∨ P1_5_ k_) ∨ w.heap.size ≤ k_)) (.slice A1_2 l1_2.length c1_2) l1_2 from Kd.V_mono hs1_2 (fun k_ hk => .inl (.inl hk)))
 have HO1_3 := Aside0.mk (show Kd.V (Kd.int .i64) 3 w w.heap.size (fun k_ => ((P1_2_ k_ ∨ P1_3_ k_ ∨ P1_4_ k_ ∨ P1_5_ k_) ∨ w.heap.size ≤ k_)) (.slice A1_3 l1_3.length c1_3) l1_3 from Kd.V_mono hs1_3 (fun k_ hk => .inl (.inr (.inl hk))))
 have HO1_4 := Aside0.mk (show Kd.V (Kd.int .i64) 3 w w.heap.size (fun k_ => ((P1_2_ k_ ∨ P1_3_ k_ ∨ P1_4_ k_ ∨ P1_5_ k_) ∨ w.heap.size ≤ k_)) (.slice A1_4 l1_4.length c1_4) l1_4 from Kd.V_mono hs1_4 (fun k_ hk => .inl (.inr (.inr (.inl hk)))))
 have HO1_5 := Aside0.mk (show Kd.V (Kd.int .i64) 3 w w.heap.size (fun k_ => ((P1_2_ k_ ∨ P1_3_ k_ ∨ P1_4_ k_ ∨ P1_5_ k_) ∨ w.heap.size ≤ k_)) (.slice A1_5 l1_5.length c1_5) l1_5 from Kd.V_mono hs1_5 (fun k_ hk => .inl (.inr (.inr (.inr hk)))))
 have HB := Aside0.mk (Below.refl w.heap.size w)
 have H : ((space_Elements.f l0).bind fun bt108 => (if bt108.2 = 0 then (if a1_0 = 1 then (if bt108.1 > 4096 then (some (0, 18)) else (some (bt108.1, 0))) else (if a1_0 = 2 then ((space_right.f (l0.length : Int) l1_1).bind fun t110 => (space_measured.j0 k l0 (l0.length : Int) t110 a1_0 l1_1 l1_2 l1_3 l1_4 l1_5)) else (space_measured.j0 k l0 (l0.length : Int) false a1_0 l1_1 l1_2 l1_3 l1_4 l1_5))) else (some (0, bt108.2)))) = some (r1, r2) := h
 clear h
 replace H := Option.bind_eq_some_iff.mp H
 obtain ⟨⟨t108, t109⟩, A30, H⟩ := H
 replace H : (if t109 = 0 then (if a1_0 = 1 then (if t108 > 4096 then (some (0, 18)) else (some (t108, 0))) else (if a1_0 = 2 then ((space_right.f (l0.length : Int) l1_1).bind fun t110 => (space_measured.j0 k l0 (l0.length : Int) t110 a1_0 l1_1 l1_2 l1_3 l1_4 l1_5)) else (space_measured.j0 k l0 (l0.length : Int) false a1_0 l1_1 l1_2 l1_3 l1_4 l1_5))) else (some (0, t109))) = some (r1, r2) := H
 have A3 := Aside0.mk A30
 clear A30
 by_cases c4 : t109 = 0
 ·rw [if_pos c4] at H
  have c4b0 : (t109 == 0) = true := beq_iff_eq.mpr c4
  have c4b1 : (t109 != 0) = false := bne_eq_false_iff_eq.mpr c4
  clear c4
  by_cases c5 : a1_0 = 1
  ·rw [if_pos c5] at H
   have c5b0 : (a1_0 == 1) = true := beq_iff_eq.mpr c5
   have c5b1 : (a1_0 != 1) = false := bne_eq_false_iff_eq.mpr c5
   clear c5
   by_cases c6 : t108 > 4096
   ·rw [if_pos c6] at H
    have c6b0 : decide (4096 < t108) = true := decide_eq_true c6
    clear c6
    simp only [Option.some.injEq, Prod.mk.injEq] at H
    obtain ⟨rfl, rfl⟩ := H
    go_enter Try.func30, Try.ntmps30
    go_wp2_with (first | ((with_reducible refine gate_dst (N := 3) rfl ?_); ((refine gate_guard (by rfl) ?_; dsimp only)); refine box_event ?hg (N := 3) ?hd (cs := #[.int .i64 a1_0, .slice A1_1 l1_1.length c1_1, .slice A1_2 l1_2.length c1_2, .slice A1_3 l1_3.length c1_3, .slice A1_4 l1_4.length c1_4, .slice A1_5 l1_5.length c1_5]) (t := 33) ?hr ?_; (case hd => rfl); (case hg => rfl); (case hr => (go_simp; done)); intro gb107 hg w7 hbox hb; have n0_ := Aside0.mk (Kd.V_below (Kd.V_elderB (by exact HO1_2.out) gb107 (Nat.le_of_eq hg.symm)) hb); have n1_ := Aside0.mk (Kd.V_below (Kd.V_elderB (by exact HO1_3.out) gb107 (Nat.le_of_eq hg.symm)) hb); have n2_ := Aside0.mk (Kd.V_below (Kd.V_elderB (by exact HO1_4.out) gb107 (Nat.le_of_eq hg.symm)) hb); have n3_ := Aside0.mk (Kd.V_below (Kd.V_elderB (by exact HO1_5.out) gb107 (Nat.le_of_eq hg.symm)) hb); have n4_ := Aside0.mk (below_step (HB.out) hb); have n5_ := Aside0.mk (hbox); have n6_ := Aside0.mk ((by rw [hg]; exact (below_size (HB.out)) : w.heap.size ≤ gb107)); have n7_ := Aside0.mk ((by rw [hg]; exact (below_size (HB.out)) : w.heap.size ≤ gb107)); clear HO1_2; clear HO1_3; clear HO1_4; clear HO1_5; clear HB; have HO1_2 := n0_; have HO1_3 := n1_; have HO1_4 := n2_; have HO1_5 := n3_; have HB := n4_; have BK107 := n5_; have GW107 := n6_; have GE107 := n7_; clear n0_ n1_ n2_ n3_ n4_ n5_ n6_ n7_; clear hb hbox hg) | ((with_reducible refine gate_callee (f := 11) rfl ?_); refine goesL_ (some 16) rfl rfl Try.func11 (by kernel_rfl) rfl #[.slice A0 l0.length c0] rfl (by (simp only [List.map_toArray, List.map_cons, List.map_nil]); rfl) ?_; (with_reducible refine (space_Elements.calls _ _ l0 t108 t109 _ ?side1 ?side2 A3.out).mono ?_); (case side1 => repeat (exact (Kd.C_below HR0.out HB.out))); (case side2 => exact HC0.out); rintro e w' ⟨rfl, ⟨nd, rfl⟩⟩; refine ⟨_, rfl, ?_⟩; have hcz8_0 : w7.cell? ⟨gb107, 0, none⟩ = some (.int .i64 a1_0) := (blk_cell BK107.out 0).trans rfl; have hcz8_1 : w7.cell? ⟨gb107, 1, none⟩ = some (.slice A1_1 l1_1.length c1_1) := (blk_cell BK107.out 1).trans rfl; have hcz8_2 : w7.cell? ⟨gb107, 2, none⟩ = some (.slice A1_2 l1_2.length c1_2) := (blk_cell BK107.out 2).trans rfl; have hcz8_3 : w7.cell? ⟨gb107, 3, none⟩ = some (.slice A1_3 l1_3.length c1_3) := (blk_cell BK107.out 3).trans rfl; have hcz8_4 : w7.cell? ⟨gb107, 4, none⟩ = some (.slice A1_4 l1_4.length c1_4) := (blk_cell BK107.out 4).trans rfl; have hcz8_5 : w7.cell? ⟨gb107, 5, none⟩ = some (.slice A1_5 l1_5.length c1_5) := (blk_cell BK107.out 5).trans rfl; have hfz8_0 := blk_frozen BK107.out 0; have hfz8_1 := blk_frozen BK107.out 1; have hfz8_2 := blk_frozen BK107.out 2; have hfz8_3 := blk_frozen BK107.out 3; have hfz8_4 := blk_frozen BK107.out 4; have hfz8_5 := blk_frozen BK107.out 5))
    go_ret2
    exact ⟨by rfl, by repeat ((with_reducible first | exact HB.out | apply pw_below_drewN))⟩
   rw [if_neg c6] at H
   have c6b0 : decide (4096 < t108) = false := decide_eq_false c6
   clear c6
   simp only [Option.some.injEq, Prod.mk.injEq] at H
   obtain ⟨rfl, rfl⟩ := H
   go_enter Try.func30, Try.ntmps30
   go_wp2_with (first | ((with_reducible refine gate_dst (N := 3) rfl ?_); ((refine gate_guard (by rfl) ?_; dsimp only)); refine box_event ?hg (N := 3) ?hd (cs := #[.int .i64 a1_0, .slice A1_1 l1_1.length c1_1, .slice A1_2 l1_2.length c1_2, .slice A1_3 l1_3.length c1_3, .slice A1_4 l1_4.length c1_4, .slice A1_5 l1_5.length c1_5]) (t := 33) ?hr ?_; (case hd => rfl); (case hg => rfl); (case hr => (go_simp; done)); intro gb107 hg w9 hbox hb; have n0_ := Aside0.mk (Kd.V_below (Kd.V_elderB (by exact HO1_2.out) gb107 (Nat.le_of_eq hg.symm)) hb); have n1_ := Aside0.mk (Kd.V_below (Kd.V_elderB (by exact HO1_3.out) gb107 (Nat.le_of_eq hg.symm)) hb); have n2_ := Aside0.mk (Kd.V_below (Kd.V_elderB (by exact HO1_4.out) gb107 (Nat.le_of_eq hg.symm)) hb); have n3_ := Aside0.mk (Kd.V_below (Kd.V_elderB (by exact HO1_5.out) gb107 (Nat.le_of_eq hg.symm)) hb); have n4_ := Aside0.mk (below_step (HB.out) hb); have n5_ := Aside0.mk (hbox); have n6_ := Aside0.mk ((by rw [hg]; exact (below_size (HB.out)) : w.heap.size ≤ gb107)); have n7_ := Aside0.mk ((by rw [hg]; exact (below_size (HB.out)) : w.heap.size ≤ gb107)); clear HO1_2; clear HO1_3; clear HO1_4; clear HO1_5; clear HB; have HO1_2 := n0_; have HO1_3 := n1_; have HO1_4 := n2_; have HO1_5 := n3_; have HB := n4_; have BK107 := n5_; have GW107 := n6_; have GE107 := n7_; clear n0_ n1_ n2_ n3_ n4_ n5_ n6_ n7_; clear hb hbox hg) | ((with_reducible refine gate_callee (f := 11) rfl ?_); refine goesL_ (some 16) rfl rfl Try.func11 (by kernel_rfl) rfl #[.slice A0 l0.length c0] rfl (by (simp only [List.map_toArray, List.map_cons, List.map_nil]); rfl) ?_; (with_reducible refine (space_Elements.calls _ _ l0 t108 t109 _ ?side1 ?side2 A3.out).mono ?_); (case side1 => repeat (exact (Kd.C_below HR0.out HB.out))); (case side2 => exact HC0.out); rintro e w' ⟨rfl, ⟨nd, rfl⟩⟩; refine ⟨_, rfl, ?_⟩; have hcz10_0 : w9.cell? ⟨gb107, 0, none⟩ = some (.int .i64 a1_0) := (blk_cell BK107.out 0).trans rfl; have hcz10_1 : w9.cell? ⟨gb107, 1, none⟩ = some (.slice A1_1 l1_1.length c1_1) := (blk_cell BK107.out 1).trans rfl; have hcz10_2 : w9.cell? ⟨gb107, 2, none⟩ = some (.slice A1_2 l1_2.length c1_2) := (blk_cell BK107.out 2).trans rfl; have hcz10_3 : w9.cell? ⟨gb107, 3, none⟩ = some (.slice A1_3 l1_3.length c1_3) := (blk_cell BK107.out 3).trans rfl; have hcz10_4 : w9.cell? ⟨gb107, 4, none⟩ = some (.slice A1_4 l1_4.length c1_4) := (blk_cell BK107.out 4).trans rfl; have hcz10_5 : w9.cell? ⟨gb107, 5, none⟩ = some (.slice A1_5 l1_5.length c1_5) := (blk_cell BK107.out 5).trans rfl; have hfz10_0 := blk_frozen BK107.out 0; have hfz10_1 := blk_frozen BK107.out 1; have hfz10_2 := blk_frozen BK107.out 2; have hfz10_3 := blk_frozen BK107.out 3; have hfz10_4 := blk_frozen BK107.out 4; have hfz10_5 := blk_frozen BK107.out 5))
   go_ret2
   exact ⟨by rfl, by repeat ((with_reducible first | exact HB.out | apply pw_below_drewN))⟩
  rw [if_neg c5] at H
  have c5b0 : (a1_0 == 1) = false := beq_eq_false_iff_ne.mpr c5
  have c5b1 : (a1_0 != 1) = true := bne_iff_ne.mpr c5
  have HC11 := Aside0.mk H
  clear H
  go_enter Try.func30, Try.ntmps30
  go_upto_region 7 with (first | ((with_reducible refine gate_dst (N := 3) rfl ?_); ((refine gate_guard (by rfl) ?_; dsimp only)); refine box_event ?hg (N := 3) ?hd (cs := #[.int .i64 a1_0, .slice A1_1 l1_1.length c1_1, .slice A1_2 l1_2.length c1_2, .slice A1_3 l1_3.length c1_3, .slice A1_4 l1_4.length c1_4, .slice A1_5 l1_5.length c1_5]) (t := 33) ?hr ?_; (case hd => rfl); (case hg => rfl); (case hr => (go_simp; done)); intro gb107 hg w12 hbox hb; have n0_ := Aside0.mk (Kd.V_below (Kd.V_elderB (by exact HO1_2.out) gb107 (Nat.le_of_eq hg.symm)) hb); have n1_ := Aside0.mk (Kd.V_below (Kd.V_elderB (by exact HO1_3.out) gb107 (Nat.le_of_eq hg.symm)) hb); have n2_ := Aside0.mk (Kd.V_below (Kd.V_elderB (by exact HO1_4.out) gb107 (Nat.le_of_eq hg.symm)) hb); have n3_ := Aside0.mk (Kd.V_below (Kd.V_elderB (by exact HO1_5.out) gb107 (Nat.le_of_eq hg.symm)) hb); have n4_ := Aside0.mk (below_step (HB.out) hb); have n5_ := Aside0.mk (hbox); have n6_ := Aside0.mk ((by rw [hg]; exact (below_size (HB.out)) : w.heap.size ≤ gb107)); have n7_ := Aside0.mk ((by rw [hg]; exact (below_size (HB.out)) : w.heap.size ≤ gb107)); clear HO1_2; clear HO1_3; clear HO1_4; clear HO1_5; clear HB; have HO1_2 := n0_; have HO1_3 := n1_; have HO1_4 := n2_; have HO1_5 := n3_; have HB := n4_; have BK107 := n5_; have GW107 := n6_; have GE107 := n7_; clear n0_ n1_ n2_ n3_ n4_ n5_ n6_ n7_; clear hb hbox hg) | ((with_reducible refine gate_callee (f := 11) rfl ?_); refine goesL_ (some 16) rfl rfl Try.func11 (by kernel_rfl) rfl #[.slice A0 l0.length c0] rfl (by (simp only [List.map_toArray, List.map_cons, List.map_nil]); rfl) ?_; (with_reducible refine (space_Elements.calls _ _ l0 t108 t109 _ ?side1 ?side2 A3.out).mono ?_); (case side1 => repeat (exact (Kd.C_below HR0.out HB.out))); (case side2 => exact HC0.out); rintro e w' ⟨rfl, ⟨nd, rfl⟩⟩; refine ⟨_, rfl, ?_⟩; have hcz13_0 : w12.cell? ⟨gb107, 0, none⟩ = some (.int .i64 a1_0) := (blk_cell BK107.out 0).trans rfl; have hcz13_1 : w12.cell? ⟨gb107, 1, none⟩ = some (.slice A1_1 l1_1.length c1_1) := (blk_cell BK107.out 1).trans rfl; have hcz13_2 : w12.cell? ⟨gb107, 2, none⟩ = some (.slice A1_2 l1_2.length c1_2) := (blk_cell BK107.out 2).trans rfl; have hcz13_3 : w12.cell? ⟨gb107, 3, none⟩ = some (.slice A1_3 l1_3.length c1_3) := (blk_cell BK107.out 3).trans rfl; have hcz13_4 : w12.cell? ⟨gb107, 4, none⟩ = some (.slice A1_4 l1_4.length c1_4) := (blk_cell BK107.out 4).trans rfl; have hcz13_5 : w12.cell? ⟨gb107, 5, none⟩ = some (.slice A1_5 l1_5.length c1_5) := (blk_cell BK107.out 5).trans rfl; have hfz13_0 := blk_frozen BK107.out 0; have hfz13_1 := blk_frozen BK107.out 1; have hfz13_2 := blk_frozen BK107.out 2; have hfz13_3 := blk_frozen BK107.out 3; have hfz13_4 := blk_frozen BK107.out 4; have hfz13_5 := blk_frozen BK107.out 5))
  go_cut [28] (fun v28 wc => ∃ (kq : Nat) (x28_10 : Bool), v28 = .bool x28_10 ∧ Aside0 (space_measured.j0 kq l0 (l0.length : Int) x28_10 a1_0 l1_1 l1_2 l1_3 l1_4 l1_5 = some (r1, r2)) ∧ Aside0 (kq ≤ k) ∧ Aside0 (Kd.V (Kd.int .i64) 3 wc w.heap.size (fun k_ => ((P1_2_ k_ ∨ P1_3_ k_ ∨ P1_4_ k_ ∨ P1_5_ k_) ∨ w.heap.size ≤ k_) ∧ k_ ≠ gb107) (.slice A1_2 l1_2.length c1_2) l1_2) ∧ Aside0 (Kd.V (Kd.int .i64) 3 wc w.heap.size (fun k_ => ((P1_2_ k_ ∨ P1_3_ k_ ∨ P1_4_ k_ ∨ P1_5_ k_) ∨ w.heap.size ≤ k_) ∧ k_ ≠ gb107) (.slice A1_3 l1_3.length c1_3) l1_3) ∧ Aside0 (Kd.V (Kd.int .i64) 3 wc w.heap.size (fun k_ => ((P1_2_ k_ ∨ P1_3_ k_ ∨ P1_4_ k_ ∨ P1_5_ k_) ∨ w.heap.size ≤ k_) ∧ k_ ≠ gb107) (.slice A1_4 l1_4.length c1_4) l1_4) ∧ Aside0 (Kd.V (Kd.int .i64) 3 wc w.heap.size (fun k_ => ((P1_2_ k_ ∨ P1_3_ k_ ∨ P1_4_ k_ ∨ P1_5_ k_) ∨ w.heap.size ≤ k_) ∧ k_ ≠ gb107) (.slice A1_5 l1_5.length c1_5) l1_5) ∧ Aside0 (wc.heap[gb107]? = some (.cells #[.int .i64 a1_0, (.slice A1_1 l1_1.length c1_1), (.slice A1_2 l1_2.length c1_2), (.slice A1_3 l1_3.length c1_3), (.slice A1_4 l1_4.length c1_4), (.slice A1_5 l1_5.length c1_5)] 33 (0, 0))) ∧ Aside0 (Below w.heap.size w wc))
  case first =>
   have H := HC11.out
   clear HC11
   by_cases c14 : a1_0 = 2
   ·rw [if_pos c14] at H
    have c14b0 : (a1_0 == 2) = true := beq_iff_eq.mpr c14
    have c14b1 : (a1_0 != 2) = false := bne_eq_false_iff_eq.mpr c14
    clear c14
    replace H := Option.bind_eq_some_iff.mp H
    obtain ⟨t110, A150, H⟩ := H
    replace H : (space_measured.j0 k l0 (l0.length : Int) t110 a1_0 l1_1 l1_2 l1_3 l1_4 l1_5) = some (r1, r2) := H
    have A15 := Aside0.mk A150
    clear A150
    have H' := Aside0.mk H
    clear H
    have hcz16_0 : w12.cell? ⟨gb107, 0, none⟩ = some (.int .i64 a1_0) := (blk_cell BK107.out 0).trans rfl
    have hcz16_1 : w12.cell? ⟨gb107, 1, none⟩ = some (.slice A1_1 l1_1.length c1_1) := (blk_cell BK107.out 1).trans rfl
    have hcz16_2 : w12.cell? ⟨gb107, 2, none⟩ = some (.slice A1_2 l1_2.length c1_2) := (blk_cell BK107.out 2).trans rfl
    have hcz16_3 : w12.cell? ⟨gb107, 3, none⟩ = some (.slice A1_3 l1_3.length c1_3) := (blk_cell BK107.out 3).trans rfl
    have hcz16_4 : w12.cell? ⟨gb107, 4, none⟩ = some (.slice A1_4 l1_4.length c1_4) := (blk_cell BK107.out 4).trans rfl
    have hcz16_5 : w12.cell? ⟨gb107, 5, none⟩ = some (.slice A1_5 l1_5.length c1_5) := (blk_cell BK107.out 5).trans rfl
    have hfz16_0 := blk_frozen BK107.out 0
    have hfz16_1 := blk_frozen BK107.out 1
    have hfz16_2 := blk_frozen BK107.out 2
    have hfz16_3 := blk_frozen BK107.out 3
    have hfz16_4 := blk_frozen BK107.out 4
    have hfz16_5 := blk_frozen BK107.out 5
    go_wp2_with ((go_at_call 39; (with_reducible refine (space_right.calls (l0.length : Int) _ _ l1_1 t110 _ ?side1 ?side2 A15.out).mono ?_); (case side1 => repeat (first | exact (Kd.C_below HR1_1.out HB.out) | (with_reducible refine Kd.C_drewN ?_ _))); (case side2 => exact HC1_1.out); rintro e w' ⟨rfl, ⟨nd, rfl⟩⟩))
    go_meet
    case rel => exact ⟨_, (t110), (by rfl), H', ⟨by omega⟩, ⟨by (with_reducible repeat (apply Kd.V_drewN)); exact HO1_2.out⟩, ⟨by (with_reducible repeat (apply Kd.V_drewN)); exact HO1_3.out⟩, ⟨by (with_reducible repeat (apply Kd.V_drewN)); exact HO1_4.out⟩, ⟨by (with_reducible repeat (apply Kd.V_drewN)); exact HO1_5.out⟩, ⟨by (with_reducible repeat (refine blk_drewN ?_ _)); exact BK107.out⟩, ⟨by repeat ((with_reducible first | exact HB.out | apply pw_below_drewN))⟩⟩
   rw [if_neg c14] at H
   have c14b0 : (a1_0 == 2) = false := beq_eq_false_iff_ne.mpr c14
   have c14b1 : (a1_0 != 2) = true := bne_iff_ne.mpr c14
   have H' := Aside0.mk H
   clear H
   have hcz17_0 : w12.cell? ⟨gb107, 0, none⟩ = some (.int .i64 a1_0) := (blk_cell BK107.out 0).trans rfl
   have hcz17_1 : w12.cell? ⟨gb107, 1, none⟩ = some (.slice A1_1 l1_1.length c1_1) := (blk_cell BK107.out 1).trans rfl
   have hcz17_2 : w12.cell? ⟨gb107, 2, none⟩ = some (.slice A1_2 l1_2.length c1_2) := (blk_cell BK107.out 2).trans rfl
   have hcz17_3 : w12.cell? ⟨gb107, 3, none⟩ = some (.slice A1_3 l1_3.length c1_3) := (blk_cell BK107.out 3).trans rfl
   have hcz17_4 : w12.cell? ⟨gb107, 4, none⟩ = some (.slice A1_4 l1_4.length c1_4) := (blk_cell BK107.out 4).trans rfl
   have hcz17_5 : w12.cell? ⟨gb107, 5, none⟩ = some (.slice A1_5 l1_5.length c1_5) := (blk_cell BK107.out 5).trans rfl
   have hfz17_0 := blk_frozen BK107.out 0
   have hfz17_1 := blk_frozen BK107.out 1
   have hfz17_2 := blk_frozen BK107.out 2
   have hfz17_3 := blk_frozen BK107.out 3
   have hfz17_4 := blk_frozen BK107.out 4
   have hfz17_5 := blk_frozen BK107.out 5
   go_wp2
   go_meet
   case rel => exact ⟨_, (false), (by rfl), H', ⟨by omega⟩, ⟨by (with_reducible repeat (apply Kd.V_drewN)); exact HO1_2.out⟩, ⟨by (with_reducible repeat (apply Kd.V_drewN)); exact HO1_3.out⟩, ⟨by (with_reducible repeat (apply Kd.V_drewN)); exact HO1_4.out⟩, ⟨by (with_reducible repeat (apply Kd.V_drewN)); exact HO1_5.out⟩, ⟨by (with_reducible repeat (refine blk_drewN ?_ _)); exact BK107.out⟩, ⟨by repeat ((with_reducible first | exact HB.out | apply pw_below_drewN))⟩⟩
  case rest =>
   clear HC11 c4b0 c4b1 c5 c5b0 c5b1 hcz13_0 hcz13_1 hcz13_2 hcz13_3 hcz13_4 hcz13_5 hfz13_0 hfz13_1 hfz13_2 hfz13_3 hfz13_4 hfz13_5
   obtain ⟨kq, x28_10, rfl, HA, HJ10, HO_108002, HO_108003, HO_108004, HO_108005, BK107, HB⟩ := hcut
   cases kq with
   | zero => exact absurd HA.out (by simp [space_measured.j0])
   | succ kj10 =>
    have H := HA.out
    clear HA
    simp only [space_measured.j0] at H
    by_cases c18 : x28_10 = true
    ·subst c18
     have H1 : (space_measured.l0 kj10 l0 (l1_1.length : Int) l1_1 (l1_1.length : Int) 0) = some (r1, r2) := by rw [if_pos rfl] at H; exact H
     clear H
     have H := H1
     clear H1
     have H' := Aside0.mk H
     clear H
     have hcz19_0 : wc.cell? ⟨gb107, 0, none⟩ = some (.int .i64 a1_0) := (blk_cell BK107.out 0).trans rfl
     have hcz19_1 : wc.cell? ⟨gb107, 1, none⟩ = some (.slice A1_1 l1_1.length c1_1) := (blk_cell BK107.out 1).trans rfl
     have hcz19_2 : wc.cell? ⟨gb107, 2, none⟩ = some (.slice A1_2 l1_2.length c1_2) := (blk_cell BK107.out 2).trans rfl
     have hcz19_3 : wc.cell? ⟨gb107, 3, none⟩ = some (.slice A1_3 l1_3.length c1_3) := (blk_cell BK107.out 3).trans rfl
     have hcz19_4 : wc.cell? ⟨gb107, 4, none⟩ = some (.slice A1_4 l1_4.length c1_4) := (blk_cell BK107.out 4).trans rfl
     have hcz19_5 : wc.cell? ⟨gb107, 5, none⟩ = some (.slice A1_5 l1_5.length c1_5) := (blk_cell BK107.out 5).trans rfl
     have hfz19_0 := blk_frozen BK107.out 0
     have hfz19_1 := blk_frozen BK107.out 1
     have hfz19_2 := blk_frozen BK107.out 2
     have hfz19_3 := blk_frozen BK107.out 3
     have hfz19_4 := blk_frozen BK107.out 4
     have hfz19_5 := blk_frozen BK107.out 5
     go_wp2
     go_loopg [44] kj10 (fun kq v44 w' => ∃ (x44_2 : Int), v44 = .int .i64 x44_2 ∧ Aside0 (space_measured.l0 kq l0 (l1_1.length : Int) l1_1 (l1_1.length : Int) x44_2 = some (r1, r2)) ∧ Aside0 (kq ≤ kj10) ∧ Aside0 (Kd.V (Kd.int .i64) 3 w' w.heap.size (fun k_ => ((P1_2_ k_ ∨ P1_3_ k_ ∨ P1_4_ k_ ∨ P1_5_ k_) ∨ w.heap.size ≤ k_) ∧ k_ ≠ gb107) (.slice A1_2 l1_2.length c1_2) l1_2) ∧ Aside0 (Kd.V (Kd.int .i64) 3 w' w.heap.size (fun k_ => ((P1_2_ k_ ∨ P1_3_ k_ ∨ P1_4_ k_ ∨ P1_5_ k_) ∨ w.heap.size ≤ k_) ∧ k_ ≠ gb107) (.slice A1_3 l1_3.length c1_3) l1_3) ∧ Aside0 (Kd.V (Kd.int .i64) 3 w' w.heap.size (fun k_ => ((P1_2_ k_ ∨ P1_3_ k_ ∨ P1_4_ k_ ∨ P1_5_ k_) ∨ w.heap.size ≤ k_) ∧ k_ ≠ gb107) (.slice A1_4 l1_4.length c1_4) l1_4) ∧ Aside0 (Kd.V (Kd.int .i64) 3 w' w.heap.size (fun k_ => ((P1_2_ k_ ∨ P1_3_ k_ ∨ P1_4_ k_ ∨ P1_5_ k_) ∨ w.heap.size ≤ k_) ∧ k_ ≠ gb107) (.slice A1_5 l1_5.length c1_5) l1_5) ∧ Aside0 (w'.heap[gb107]? = some (.cells #[.int .i64 a1_0, (.slice A1_1 l1_1.length c1_1), (.slice A1_2 l1_2.length c1_2), (.slice A1_3 l1_3.length c1_3), (.slice A1_4 l1_4.length c1_4), (.slice A1_5 l1_5.length c1_5)] 33 (0, 0))) ∧ Aside0 (Below w.heap.size w w'))
     case atStart => exact ⟨(0), (by rfl), H', ⟨Nat.le_refl _⟩, ⟨by (with_reducible repeat (first | apply Kd.V_alloc | apply Kd.V_drewN | apply Kd.V_drew)); exact HO_108002.out⟩, ⟨by (with_reducible repeat (first | apply Kd.V_alloc | apply Kd.V_drewN | apply Kd.V_drew)); exact HO_108003.out⟩, ⟨by (with_reducible repeat (first | apply Kd.V_alloc | apply Kd.V_drewN | apply Kd.V_drew)); exact HO_108004.out⟩, ⟨by (with_reducible repeat (first | apply Kd.V_alloc | apply Kd.V_drewN | apply Kd.V_drew)); exact HO_108005.out⟩, ⟨by (with_reducible repeat (first | refine blk_drewN ?_ _ | refine blk_drew ?_ | refine blk_alloc ?_ _)); exact BK107.out⟩, ⟨HB.out⟩⟩
     case round =>
      clear H' hcz19_0 hcz19_1 hcz19_2 hcz19_3 hcz19_4 hcz19_5 hfz19_0 hfz19_1 hfz19_2 hfz19_3 hfz19_4 hfz19_5
      obtain ⟨x44_2, rfl, HA, HK2, HO_108002, HO_108003, HO_108004, HO_108005, BK107, HB⟩ := hrel
      cases gk with
      | zero => exact absurd HA.out (by simp [space_measured.l0])
      | succ k2 =>
       have H := HA.out
       clear HA
       simp only [space_measured.l0] at H
       by_cases c20 : x44_2 < (l1_1.length : Int)
       ·rw [if_pos c20] at H
        have c20b0 : decide (x44_2 < (l1_1.length : Int)) = true := decide_eq_true c20
        clear c20
        by_cases c21 : 0 ≤ x44_2
        case neg => rw [if_neg c21] at H; exact absurd H (by simp)
        rw [if_pos c21] at H
        have c21b0 : decide (0 ≤ x44_2) = true := decide_eq_true c21
        clear c21
        by_cases c22 : x44_2 < (l1_1.length : Int)
        case neg => rw [if_neg c22] at H; exact absurd H (by simp)
        rw [if_pos c22] at H
        have c22b0 : decide (x44_2 < (l1_1.length : Int)) = true := decide_eq_true c22
        clear c22
        have H' := Aside0.mk H
        clear H
        have p111 : 0 ≤ (x44_2 : Int) := of_decide_eq_true (by (with_reducible assumption))
        have q111 : x44_2 < (l1_1.length : Int) := of_decide_eq_true (by (with_reducible assumption))
        obtain ⟨ad111, A111_0, c111_0, e111, hx111_0, hl111_0, hi111_0⟩ := at_L1 HR1_1.out x44_2 p111 q111
        cases e111
        replace hx111_0 := (HB.out.cell (World.block_lt_of_cell? w _ hx111_0)).trans hx111_0
        have HR111_0 := Aside0.mk hi111_0
        have HC111_0 := Aside0.mk hl111_0
        clear hi111_0 hl111_0
        replace p111 := eq_true p111
        replace q111 := eq_true q111
        go_wp2
        go_loopg [50] k2 (fun kq v50 w' => ∃ (x50_3 : Int), v50 = .int .i64 x50_3 ∧ Aside0 (space_measured.l1 kq l0 (l1_1.length : Int) l1_1 (l1_1.length : Int) x44_2 (rd_L1 l1_1 x44_2) ((rd_L1 l1_1 x44_2).length : Int) x50_3 = some (r1, r2)) ∧ Aside0 (kq ≤ k2) ∧ Aside0 (Kd.V (Kd.int .i64) 3 w' w.heap.size (fun k_ => ((P1_2_ k_ ∨ P1_3_ k_ ∨ P1_4_ k_ ∨ P1_5_ k_) ∨ w.heap.size ≤ k_) ∧ k_ ≠ gb107) (.slice A1_2 l1_2.length c1_2) l1_2) ∧ Aside0 (Kd.V (Kd.int .i64) 3 w' w.heap.size (fun k_ => ((P1_2_ k_ ∨ P1_3_ k_ ∨ P1_4_ k_ ∨ P1_5_ k_) ∨ w.heap.size ≤ k_) ∧ k_ ≠ gb107) (.slice A1_3 l1_3.length c1_3) l1_3) ∧ Aside0 (Kd.V (Kd.int .i64) 3 w' w.heap.size (fun k_ => ((P1_2_ k_ ∨ P1_3_ k_ ∨ P1_4_ k_ ∨ P1_5_ k_) ∨ w.heap.size ≤ k_) ∧ k_ ≠ gb107) (.slice A1_4 l1_4.length c1_4) l1_4) ∧ Aside0 (Kd.V (Kd.int .i64) 3 w' w.heap.size (fun k_ => ((P1_2_ k_ ∨ P1_3_ k_ ∨ P1_4_ k_ ∨ P1_5_ k_) ∨ w.heap.size ≤ k_) ∧ k_ ≠ gb107) (.slice A1_5 l1_5.length c1_5) l1_5) ∧ Aside0 (w'.heap[gb107]? = some (.cells #[.int .i64 a1_0, (.slice (some ad111) l1_1.length c1_1), (.slice A1_2 l1_2.length c1_2), (.slice A1_3 l1_3.length c1_3), (.slice A1_4 l1_4.length c1_4), (.slice A1_5 l1_5.length c1_5)] 33 (0, 0))) ∧ Aside0 (Below w.heap.size w w'))
        case atStart => exact ⟨(0), (by rfl), H', ⟨Nat.le_refl _⟩, ⟨by (with_reducible repeat (first | apply Kd.V_alloc | apply Kd.V_drewN | apply Kd.V_drew)); exact HO_108002.out⟩, ⟨by (with_reducible repeat (first | apply Kd.V_alloc | apply Kd.V_drewN | apply Kd.V_drew)); exact HO_108003.out⟩, ⟨by (with_reducible repeat (first | apply Kd.V_alloc | apply Kd.V_drewN | apply Kd.V_drew)); exact HO_108004.out⟩, ⟨by (with_reducible repeat (first | apply Kd.V_alloc | apply Kd.V_drewN | apply Kd.V_drew)); exact HO_108005.out⟩, ⟨by (with_reducible repeat (first | refine blk_drewN ?_ _ | refine blk_drew ?_ | refine blk_alloc ?_ _)); exact BK107.out⟩, ⟨HB.out⟩⟩
        case round =>
         clear H' c20b0 c21b0 c22b0 hx111_0 p111 q111
         obtain ⟨x50_3, rfl, HA, HK3, HO_108002, HO_108003, HO_108004, HO_108005, BK107, HB⟩ := hrel
         cases gk with
         | zero => exact absurd HA.out (by simp [space_measured.l1])
         | succ k3 =>
          have H := HA.out
          clear HA
          simp only [space_measured.l1] at H
          by_cases c23 : x50_3 < ((rd_L1 l1_1 x44_2).length : Int)
          ·rw [if_pos c23] at H
           have c23b0 : decide (x50_3 < ((rd_L1 l1_1 x44_2).length : Int)) = true := decide_eq_true c23
           clear c23
           by_cases c24 : 0 ≤ x50_3
           case neg => rw [if_neg c24] at H; exact absurd H (by simp)
           rw [if_pos c24] at H
           have c24b0 : decide (0 ≤ x50_3) = true := decide_eq_true c24
           clear c24
           by_cases c25 : x50_3 < ((rd_L1 l1_1 x44_2).length : Int)
           case neg => rw [if_neg c25] at H; exact absurd H (by simp)
           rw [if_pos c25] at H
           have c25b0 : decide (x50_3 < ((rd_L1 l1_1 x44_2).length : Int)) = true := decide_eq_true c25
           clear c25
           by_cases c26 : x50_3 < (l0.length : Int)
           case neg => rw [if_neg c26] at H; exact absurd H (by simp)
           rw [if_pos c26] at H
           have c26b0 : decide (x50_3 < (l0.length : Int)) = true := decide_eq_true c26
           clear c26
           by_cases c27 : (rd (rd_L1 l1_1 x44_2) x50_3) ≥ (rd l0 x50_3)
           ·rw [if_pos c27] at H
            have c27b0 : decide ((rd l0 x50_3) ≤ (rd (rd_L1 l1_1 x44_2) x50_3)) = true := decide_eq_true c27
            clear c27
            simp only [Option.some.injEq, Prod.mk.injEq] at H
            obtain ⟨rfl, rfl⟩ := H
            have p112 : 0 ≤ (x50_3 : Int) := of_decide_eq_true (by (with_reducible assumption))
            have q112 : x50_3 < ((rd_L1 l1_1 x44_2).length : Int) := of_decide_eq_true (by (with_reducible assumption))
            obtain ⟨ad112, e112, hx112_0⟩ := Kd.at_int HR111_0.out x50_3 p112 q112
            cases e112
            replace hx112_0 := (HB.out.cell (World.block_lt_of_cell? w _ hx112_0)).trans hx112_0
            replace p112 := eq_true p112
            replace q112 := eq_true q112
            have p113 : 0 ≤ (x50_3 : Int) := of_decide_eq_true (by (with_reducible assumption))
            have q113 : x50_3 < (l0.length : Int) := of_decide_eq_true (by (with_reducible assumption))
            obtain ⟨ad113, e113, hx113_0⟩ := Kd.at_int HR0.out x50_3 p113 q113
            cases e113
            replace hx113_0 := (HB.out.cell (World.block_lt_of_cell? w _ hx113_0)).trans hx113_0
            replace p113 := eq_true p113
            replace q113 := eq_true q113
            go_wp2
            go_ret2
            exact ⟨by rfl, HB.out⟩
           rw [if_neg c27] at H
           have c27b0 : decide ((rd l0 x50_3) ≤ (rd (rd_L1 l1_1 x44_2) x50_3)) = false := decide_eq_false c27
           clear c27
           have H' := Aside0.mk H
           clear H
           have p112 : 0 ≤ (x50_3 : Int) := of_decide_eq_true (by (with_reducible assumption))
           have q112 : x50_3 < ((rd_L1 l1_1 x44_2).length : Int) := of_decide_eq_true (by (with_reducible assumption))
           obtain ⟨ad112, e112, hx112_0⟩ := Kd.at_int HR111_0.out x50_3 p112 q112
           cases e112
           replace hx112_0 := (HB.out.cell (World.block_lt_of_cell? w _ hx112_0)).trans hx112_0
           replace p112 := eq_true p112
           replace q112 := eq_true q112
           have p113 : 0 ≤ (x50_3 : Int) := of_decide_eq_true (by (with_reducible assumption))
           have q113 : x50_3 < (l0.length : Int) := of_decide_eq_true (by (with_reducible assumption))
           obtain ⟨ad113, e113, hx113_0⟩ := Kd.at_int HR0.out x50_3 p113 q113
           cases e113
           replace hx113_0 := (HB.out.cell (World.block_lt_of_cell? w _ hx113_0)).trans hx113_0
           replace p113 := eq_true p113
           replace q113 := eq_true q113
           go_wp2
           go_roundg k3
           case measure => have := HJ10.out; have := HK2.out; have := HK3.out; omega
           case rel => exact ⟨(wrap64 (x50_3 + 1)), (by rfl), H', ⟨by have := HJ10.out; have := HK2.out; have := HK3.out; omega⟩, ⟨by (with_reducible repeat (first | apply Kd.V_alloc | apply Kd.V_drewN | apply Kd.V_drew)); exact HO_108002.out⟩, ⟨by (with_reducible repeat (first | apply Kd.V_alloc | apply Kd.V_drewN | apply Kd.V_drew)); exact HO_108003.out⟩, ⟨by (with_reducible repeat (first | apply Kd.V_alloc | apply Kd.V_drewN | apply Kd.V_drew)); exact HO_108004.out⟩, ⟨by (with_reducible repeat (first | apply Kd.V_alloc | apply Kd.V_drewN | apply Kd.V_drew)); exact HO_108005.out⟩, ⟨by (with_reducible repeat (first | refine blk_drewN ?_ _ | refine blk_drew ?_ | refine blk_alloc ?_ _)); exact BK107.out⟩, ⟨HB.out⟩⟩
          rw [if_neg c23] at H
          have c23b0 : decide (x50_3 < ((rd_L1 l1_1 x44_2).length : Int)) = false := decide_eq_false c23
          clear c23
          have H' := Aside0.mk H
          clear H
          go_wp2
          go_roundg k3
          case measure => have := HJ10.out; have := HK2.out; have := HK3.out; omega
          case rel => exact ⟨(wrap64 (x44_2 + 1)), (by rfl), H', ⟨by have := HJ10.out; have := HK2.out; have := HK3.out; omega⟩, ⟨by (with_reducible repeat (first | apply Kd.V_alloc | apply Kd.V_drewN | apply Kd.V_drew)); exact HO_108002.out⟩, ⟨by (with_reducible repeat (first | apply Kd.V_alloc | apply Kd.V_drewN | apply Kd.V_drew)); exact HO_108003.out⟩, ⟨by (with_reducible repeat (first | apply Kd.V_alloc | apply Kd.V_drewN | apply Kd.V_drew)); exact HO_108004.out⟩, ⟨by (with_reducible repeat (first | apply Kd.V_alloc | apply Kd.V_drewN | apply Kd.V_drew)); exact HO_108005.out⟩, ⟨by (with_reducible repeat (first | refine blk_drewN ?_ _ | refine blk_drew ?_ | refine blk_alloc ?_ _)); exact BK107.out⟩, ⟨HB.out⟩⟩
       rw [if_neg c20] at H
       have c20b0 : decide (x44_2 < (l1_1.length : Int)) = false := decide_eq_false c20
       clear c20
       by_cases c28 : (l1_1.length : Int) > 4096
       ·rw [if_pos c28] at H
        have c28b0 : decide (4096 < (l1_1.length : Int)) = true := decide_eq_true c28
        have c28b1 : decide (4096 < l1_1.length) = true := decide_eq_true (by omega)
        clear c28
        simp only [Option.some.injEq, Prod.mk.injEq] at H
        obtain ⟨rfl, rfl⟩ := H
        go_wp2
        go_ret2
        exact ⟨by rfl, HB.out⟩
       rw [if_neg c28] at H
       have c28b0 : decide (4096 < (l1_1.length : Int)) = false := decide_eq_false c28
       have c28b1 : decide (4096 < l1_1.length) = false := decide_eq_false (by omega)
       clear c28
       simp only [Option.some.injEq, Prod.mk.injEq] at H
       obtain ⟨rfl, rfl⟩ := H
       go_wp2
       go_ret2
       exact ⟨by rfl, HB.out⟩
    replace c18 := Bool.eq_false_iff.mpr c18
    subst c18
    have H1 : (if a1_0 = 3 then ((space_right.f (l0.length : Int) (([l1_2, l1_3, l1_4, l1_5] : List (List Int)))).bind fun t117 => (space_measured.j3 kj10 l0 t117 a1_0 l1_1 l1_2 l1_3 l1_4 l1_5)) else (space_measured.j3 kj10 l0 false a1_0 l1_1 l1_2 l1_3 l1_4 l1_5)) = some (r1, r2) := by rw [if_neg (show ¬ (false = true) by decide)] at H; exact H
    clear H
    have H := H1
    clear H1
    have HC29 := Aside0.mk H
    clear H
    go_upto_region 19 with (fail)
    go_cut [63] (fun v63 wc => ∃ (kq : Nat) (x63_28 : Bool), v63 = .bool x63_28 ∧ Aside0 (space_measured.j3 kq l0 x63_28 a1_0 l1_1 l1_2 l1_3 l1_4 l1_5 = some (r1, r2)) ∧ Aside0 (kq ≤ kj10) ∧ Aside0 (Kd.V (Kd.int .i64) 3 wc w.heap.size (fun k_ => ((P1_2_ k_ ∨ P1_3_ k_ ∨ P1_4_ k_ ∨ P1_5_ k_) ∨ w.heap.size ≤ k_) ∧ k_ ≠ gb107) (.slice A1_2 l1_2.length c1_2) l1_2) ∧ Aside0 (Kd.V (Kd.int .i64) 3 wc w.heap.size (fun k_ => ((P1_2_ k_ ∨ P1_3_ k_ ∨ P1_4_ k_ ∨ P1_5_ k_) ∨ w.heap.size ≤ k_) ∧ k_ ≠ gb107) (.slice A1_3 l1_3.length c1_3) l1_3) ∧ Aside0 (Kd.V (Kd.int .i64) 3 wc w.heap.size (fun k_ => ((P1_2_ k_ ∨ P1_3_ k_ ∨ P1_4_ k_ ∨ P1_5_ k_) ∨ w.heap.size ≤ k_) ∧ k_ ≠ gb107) (.slice A1_4 l1_4.length c1_4) l1_4) ∧ Aside0 (Kd.V (Kd.int .i64) 3 wc w.heap.size (fun k_ => ((P1_2_ k_ ∨ P1_3_ k_ ∨ P1_4_ k_ ∨ P1_5_ k_) ∨ w.heap.size ≤ k_) ∧ k_ ≠ gb107) (.slice A1_5 l1_5.length c1_5) l1_5) ∧ Aside0 (wc.heap[gb107]? = some (.cells #[.int .i64 a1_0, (.slice A1_1 l1_1.length c1_1), (.slice A1_2 l1_2.length c1_2), (.slice A1_3 l1_3.length c1_3), (.slice A1_4 l1_4.length c1_4), (.slice A1_5 l1_5.length c1_5)] 33 (0, 0))) ∧ Aside0 (Below w.heap.size w wc))
    case first =>
     have H := HC29.out
     clear HC29
     by_cases c30 : a1_0 = 3
     ·rw [if_pos c30] at H
      have c30b0 : (a1_0 == 3) = true := beq_iff_eq.mpr c30
      have c30b1 : (a1_0 != 3) = false := bne_eq_false_iff_eq.mpr c30
      clear c30
      obtain ⟨y114, hy114⟩ : ∃ y_ : List (List Int), y_ = (([l1_2, l1_3, l1_4, l1_5] : List (List Int))) := ⟨_, rfl⟩
      replace H : ((space_right.f (l0.length : Int) y114).bind fun t117 => (space_measured.j3 kj10 l0 t117 a1_0 l1_1 l1_2 l1_3 l1_4 l1_5)) = some (r1, r2) := by (rw [hy114]; with_reducible exact H)
      have Ny114 := Aside0.mk hy114
      clear hy114
      replace H := Option.bind_eq_some_iff.mp H
      obtain ⟨t117, A310, H⟩ := H
      replace H : (space_measured.j3 kj10 l0 t117 a1_0 l1_1 l1_2 l1_3 l1_4 l1_5) = some (r1, r2) := H
      have A31 := Aside0.mk A310
      clear A310
      have H' := Aside0.mk H
      clear H
      have hcz32_0 : wc.cell? ⟨gb107, 0, none⟩ = some (.int .i64 a1_0) := (blk_cell BK107.out 0).trans rfl
      have hcz32_1 : wc.cell? ⟨gb107, 1, none⟩ = some (.slice A1_1 l1_1.length c1_1) := (blk_cell BK107.out 1).trans rfl
      have hcz32_2 : wc.cell? ⟨gb107, 2, none⟩ = some (.slice A1_2 l1_2.length c1_2) := (blk_cell BK107.out 2).trans rfl
      have hcz32_3 : wc.cell? ⟨gb107, 3, none⟩ = some (.slice A1_3 l1_3.length c1_3) := (blk_cell BK107.out 3).trans rfl
      have hcz32_4 : wc.cell? ⟨gb107, 4, none⟩ = some (.slice A1_4 l1_4.length c1_4) := (blk_cell BK107.out 4).trans rfl
      have hcz32_5 : wc.cell? ⟨gb107, 5, none⟩ = some (.slice A1_5 l1_5.length c1_5) := (blk_cell BK107.out 5).trans rfl
      have hfz32_0 := blk_frozen BK107.out 0
      have hfz32_1 := blk_frozen BK107.out 1
      have hfz32_2 := blk_frozen BK107.out 2
      have hfz32_3 := blk_frozen BK107.out 3
      have hfz32_4 := blk_frozen BK107.out 4
      have hfz32_5 := blk_frozen BK107.out 5
      go_wp2_with (first | ((with_reducible refine gate_dst (N := 77) rfl ?_); ((refine gate_guard (by rfl) ?_; dsimp only)); refine Kd.N_lit (Kd.slice 3 (Kd.int .i64)) _ 22 ?hg (N' := 77) ?hd (xs := ([l1_2, l1_3, l1_4, l1_5] : List (List Int))) (inner := [.slice A1_2 l1_2.length c1_2, .slice A1_3 l1_3.length c1_3, .slice A1_4 l1_4.length c1_4, .slice A1_5 l1_5.length c1_5]) (ok := (fun k_ => ((P1_2_ k_ ∨ P1_3_ k_ ∨ P1_4_ k_ ∨ P1_5_ k_) ∨ w.heap.size ≤ k_) ∧ k_ ≠ gb107)) (okp := (fun k_ => ((P1_2_ k_ ∨ P1_3_ k_ ∨ P1_4_ k_ ∨ P1_5_ k_) ∨ w.heap.size ≤ k_) ∧ k_ ≠ gb107)) ?hr ?hp (fun _ hk => hk) ((show ∀ k_, wc.heap.size ≤ k_ → (fun k_ => ((P1_2_ k_ ∨ P1_3_ k_ ∨ P1_4_ k_ ∨ P1_5_ k_) ∨ w.heap.size ≤ k_) ∧ k_ ≠ gb107) k_ from fun k_ hk => ⟨(.inr (Nat.le_trans (below_size (HB.out)) hk)), Kd.freshB (g := gb107) (o := .cells #[.int .i64 a1_0, .slice A1_1 l1_1.length c1_1, .slice A1_2 l1_2.length c1_2, .slice A1_3 l1_3.length c1_3, .slice A1_4 l1_4.length c1_4, .slice A1_5 l1_5.length c1_5] 33 (0, 0)) (by exact BK107.out) k_ hk⟩) _ (Nat.le_refl _)) (Below.refl _ _) (Nat.le_refl _) (by simp) ?_; (case hd => rfl); (case hg => rfl); (case hr => (go_simp; done)); (case hp => exact (Reps.one (show Kd.FK (Kd.slice 3 (Kd.int .i64)) _ _ l1_2 [.slice A1_2 l1_2.length c1_2] from (Kd.FK_slice_mk (Kd.V_reads' (Kd.V_mono (ok' := (fun k_ => ((P1_2_ k_ ∨ P1_3_ k_ ∨ P1_4_ k_ ∨ P1_5_ k_) ∨ w.heap.size ≤ k_) ∧ k_ ≠ gb107)) (HO_108002.out) (fun k_ hk => ⟨hk.1, hk.2⟩))).2.1 (Kd.V_F (Kd.V_mono (ok' := (fun k_ => ((P1_2_ k_ ∨ P1_3_ k_ ∨ P1_4_ k_ ∨ P1_5_ k_) ∨ w.heap.size ≤ k_) ∧ k_ ≠ gb107)) (HO_108002.out) (fun k_ hk => ⟨hk.1, hk.2⟩))))) (Reps.one (show Kd.FK (Kd.slice 3 (Kd.int .i64)) _ _ l1_3 [.slice A1_3 l1_3.length c1_3] from (Kd.FK_slice_mk (Kd.V_reads' (Kd.V_mono (ok' := (fun k_ => ((P1_2_ k_ ∨ P1_3_ k_ ∨ P1_4_ k_ ∨ P1_5_ k_) ∨ w.heap.size ≤ k_) ∧ k_ ≠ gb107)) (HO_108003.out) (fun k_ hk => ⟨hk.1, hk.2⟩))).2.1 (Kd.V_F (Kd.V_mono (ok' := (fun k_ => ((P1_2_ k_ ∨ P1_3_ k_ ∨ P1_4_ k_ ∨ P1_5_ k_) ∨ w.heap.size ≤ k_) ∧ k_ ≠ gb107)) (HO_108003.out) (fun k_ hk => ⟨hk.1, hk.2⟩))))) (Reps.one (show Kd.FK (Kd.slice 3 (Kd.int .i64)) _ _ l1_4 [.slice A1_4 l1_4.length c1_4] from (Kd.FK_slice_mk (Kd.V_reads' (Kd.V_mono (ok' := (fun k_ => ((P1_2_ k_ ∨ P1_3_ k_ ∨ P1_4_ k_ ∨ P1_5_ k_) ∨ w.heap.size ≤ k_) ∧ k_ ≠ gb107)) (HO_108004.out) (fun k_ hk => ⟨hk.1, hk.2⟩))).2.1 (Kd.V_F (Kd.V_mono (ok' := (fun k_ => ((P1_2_ k_ ∨ P1_3_ k_ ∨ P1_4_ k_ ∨ P1_5_ k_) ∨ w.heap.size ≤ k_) ∧ k_ ≠ gb107)) (HO_108004.out) (fun k_ hk => ⟨hk.1, hk.2⟩))))) (Reps.one (show Kd.FK (Kd.slice 3 (Kd.int .i64)) _ _ l1_5 [.slice A1_5 l1_5.length c1_5] from (Kd.FK_slice_mk (Kd.V_reads' (Kd.V_mono (ok' := (fun k_ => ((P1_2_ k_ ∨ P1_3_ k_ ∨ P1_4_ k_ ∨ P1_5_ k_) ∨ w.heap.size ≤ k_) ∧ k_ ≠ gb107)) (HO_108005.out) (fun k_ hk => ⟨hk.1, hk.2⟩))).2.1 (Kd.V_F (Kd.V_mono (ok' := (fun k_ => ((P1_2_ k_ ∨ P1_3_ k_ ∨ P1_4_ k_ ∨ P1_5_ k_) ∨ w.heap.size ≤ k_) ∧ k_ ≠ gb107)) (HO_108005.out) (fun k_ hk => ⟨hk.1, hk.2⟩))))) (Reps.none _ _)))))); intro v115 w33 ho34 hb hg_ hnew_; clear hg_ hnew_; (rw [← Ny114.out] at ho34); have n0_ := Aside0.mk (Kd.V_elder' (by exact HO_108002.out) (Kd.N_base ho34) hb); have n1_ := Aside0.mk (Kd.V_elder' (by exact HO_108003.out) (Kd.N_base ho34) hb); have n2_ := Aside0.mk (Kd.V_elder' (by exact HO_108004.out) (Kd.N_base ho34) hb); have n3_ := Aside0.mk (Kd.V_elder' (by exact HO_108005.out) (Kd.N_base ho34) hb); have n4_ := Aside0.mk (Kd.N_lower ho34 (below_size (HB.out))); have n5_ := Aside0.mk (blk_below (g := gb107) (o := .cells #[.int .i64 a1_0, .slice A1_1 l1_1.length c1_1, .slice A1_2 l1_2.length c1_2, .slice A1_3 l1_3.length c1_3, .slice A1_4 l1_4.length c1_4, .slice A1_5 l1_5.length c1_5] 33 (0, 0)) (by exact BK107.out) hb); have n6_ := Aside0.mk (below_step (HB.out) hb); clear HO_108002; clear HO_108003; clear HO_108004; clear HO_108005; clear BK107; clear HB; have HO_108002 := n0_; have HO_108003 := n1_; have HO_108004 := n2_; have HO_108005 := n3_; have HO116 := n4_; have BK107 := n5_; have HB := n6_; clear n0_ n1_ n2_ n3_ n4_ n5_ n6_; clear hb ho34; obtain ⟨Ao35, co35, eo35⟩ := Kd.N_slice HO116.out; subst eo35) | (go_at_call 39; (with_reducible refine (space_right.calls (l0.length : Int) _ _ y114 t117 _ ?side1 ?side2 A31.out).mono ?_); (case side1 => repeat (exact (Kd.N_reads' HO116.out).2.2)); (case side2 => exact (Kd.N_reads' HO116.out).2.1); rintro e w' ⟨rfl, ⟨nd, rfl⟩⟩))
      go_meet
      case rel => exact ⟨_, (t117), (by rfl), H', ⟨by have := HJ10.out; omega⟩, ⟨by (with_reducible repeat (apply Kd.V_drewN)); exact Kd.V_mono HO_108002.out (fun _ hk => ⟨hk.1.1, hk.1.2⟩)⟩, ⟨by (with_reducible repeat (apply Kd.V_drewN)); exact Kd.V_mono HO_108003.out (fun _ hk => ⟨hk.1.1, hk.1.2⟩)⟩, ⟨by (with_reducible repeat (apply Kd.V_drewN)); exact Kd.V_mono HO_108004.out (fun _ hk => ⟨hk.1.1, hk.1.2⟩)⟩, ⟨by (with_reducible repeat (apply Kd.V_drewN)); exact Kd.V_mono HO_108005.out (fun _ hk => ⟨hk.1.1, hk.1.2⟩)⟩, ⟨by (with_reducible repeat (refine blk_drewN ?_ _)); exact BK107.out⟩, ⟨by repeat ((with_reducible first | exact HB.out | apply pw_below_drewN))⟩⟩
     rw [if_neg c30] at H
     have c30b0 : (a1_0 == 3) = false := beq_eq_false_iff_ne.mpr c30
     have c30b1 : (a1_0 != 3) = true := bne_iff_ne.mpr c30
     have H' := Aside0.mk H
     clear H
     have hcz36_0 : wc.cell? ⟨gb107, 0, none⟩ = some (.int .i64 a1_0) := (blk_cell BK107.out 0).trans rfl
     have hcz36_1 : wc.cell? ⟨gb107, 1, none⟩ = some (.slice A1_1 l1_1.length c1_1) := (blk_cell BK107.out 1).trans rfl
     have hcz36_2 : wc.cell? ⟨gb107, 2, none⟩ = some (.slice A1_2 l1_2.length c1_2) := (blk_cell BK107.out 2).trans rfl
     have hcz36_3 : wc.cell? ⟨gb107, 3, none⟩ = some (.slice A1_3 l1_3.length c1_3) := (blk_cell BK107.out 3).trans rfl
     have hcz36_4 : wc.cell? ⟨gb107, 4, none⟩ = some (.slice A1_4 l1_4.length c1_4) := (blk_cell BK107.out 4).trans rfl
     have hcz36_5 : wc.cell? ⟨gb107, 5, none⟩ = some (.slice A1_5 l1_5.length c1_5) := (blk_cell BK107.out 5).trans rfl
     have hfz36_0 := blk_frozen BK107.out 0
     have hfz36_1 := blk_frozen BK107.out 1
     have hfz36_2 := blk_frozen BK107.out 2
     have hfz36_3 := blk_frozen BK107.out 3
     have hfz36_4 := blk_frozen BK107.out 4
     have hfz36_5 := blk_frozen BK107.out 5
     go_wp2
     go_meet
     case rel => exact ⟨_, (false), (by rfl), H', ⟨by have := HJ10.out; omega⟩, ⟨by (with_reducible repeat (first | apply Kd.V_alloc | apply Kd.V_drewN | apply Kd.V_drew)); exact HO_108002.out⟩, ⟨by (with_reducible repeat (first | apply Kd.V_alloc | apply Kd.V_drewN | apply Kd.V_drew)); exact HO_108003.out⟩, ⟨by (with_reducible repeat (first | apply Kd.V_alloc | apply Kd.V_drewN | apply Kd.V_drew)); exact HO_108004.out⟩, ⟨by (with_reducible repeat (first | apply Kd.V_alloc | apply Kd.V_drewN | apply Kd.V_drew)); exact HO_108005.out⟩, ⟨by (with_reducible repeat (first | refine blk_drewN ?_ _ | refine blk_drew ?_ | refine blk_alloc ?_ _)); exact BK107.out⟩, ⟨HB.out⟩⟩
    case rest =>
     clear HC29
     obtain ⟨kq, x63_28, rfl, HA, HJ28, HO_108002, HO_108003, HO_108004, HO_108005, BK107, HB⟩ := hcut
     cases kq with
     | zero => exact absurd HA.out (by simp [space_measured.j3])
     | succ kj28 =>
      have H := HA.out
      clear HA
      simp only [space_measured.j3] at H
      by_cases c37 : x63_28 = true
      ·subst c37
       have H1 : ((slices_Clone_int_int.f l1_4).bind fun t118 => (if t118.length + l1_5.length < 17592186044416 then ((space_many.f 1 (t118 ++ l1_5)).bind fun t124 => (space_measured.l2 kj28 l0 t124 (l0.length : Int) 0 a1_0 l1_1 l1_2 l1_3 l1_4 l1_5)) else (none))) = some (r1, r2) := by rw [if_pos rfl] at H; exact H
       clear H
       have H := H1
       clear H1
       replace H := Option.bind_eq_some_iff.mp H
       obtain ⟨t118, A380, H⟩ := H
       replace H : (if t118.length + l1_5.length < 17592186044416 then ((space_many.f 1 (t118 ++ l1_5)).bind fun t124 => (space_measured.l2 kj28 l0 t124 (l0.length : Int) 0 a1_0 l1_1 l1_2 l1_3 l1_4 l1_5)) else (none)) = some (r1, r2) := H
       have A38 := Aside0.mk A380
       clear A380
       by_cases c39 : t118.length + l1_5.length < 17592186044416
       case neg => rw [if_neg c39] at H; exact absurd H (by simp)
       rw [if_pos c39] at H
       have LMc39 := Aside0.mk c39
       clear c39
       obtain ⟨y121, hy121⟩ : ∃ y_ : List Int, y_ = (t118 ++ l1_5) := ⟨_, rfl⟩
       replace H : ((space_many.f 1 y121).bind fun t124 => (space_measured.l2 kj28 l0 t124 (l0.length : Int) 0 a1_0 l1_1 l1_2 l1_3 l1_4 l1_5)) = some (r1, r2) := by (rw [hy121]; with_reducible exact H)
       have Ny121 := Aside0.mk hy121
       clear hy121
       replace H := Option.bind_eq_some_iff.mp H
       obtain ⟨t124, A400, H⟩ := H
       replace H : (space_measured.l2 kj28 l0 t124 (l0.length : Int) 0 a1_0 l1_1 l1_2 l1_3 l1_4 l1_5) = some (r1, r2) := H
       have A40 := Aside0.mk A400
       clear A400
       have H' := Aside0.mk H
       clear H
       go_wp2
       have n0_ := Aside0.mk (Kd.V_drew HO_108002.out)
       have n1_ := Aside0.mk (Kd.V_drew HO_108003.out)
       have n2_ := Aside0.mk (Kd.V_drew HO_108004.out)
       have n3_ := Aside0.mk (Kd.V_drew HO_108005.out)
       have n4_ := Aside0.mk (blk_drew BK107.out)
       have n5_ := Aside0.mk (below_drew1 HB.out)
       clear HO_108002 HO_108003 HO_108004 HO_108005 BK107 HB
       have HO_108002 := n0_
       have HO_108003 := n1_
       have HO_108004 := n2_
       have HO_108005 := n3_
       have BK107 := n4_
       have HB := n5_
       clear n0_ n1_ n2_ n3_ n4_ n5_
       refine start_ (n := 8) (S := fun w' => w'.cell? ⟨gb107, 0, none⟩ = some (.int .i64 a1_0) ∧ w'.cell? ⟨gb107, 1, none⟩ = some (.slice A1_1 l1_1.length c1_1) ∧ w'.cell? ⟨gb107, 2, none⟩ = some (.slice A1_2 l1_2.length c1_2) ∧ w'.cell? ⟨gb107, 3, none⟩ = some (.slice A1_3 l1_3.length c1_3) ∧ w'.cell? ⟨gb107, 4, none⟩ = some (.slice A1_4 l1_4.length c1_4) ∧ w'.cell? ⟨gb107, 5, none⟩ = some (.slice A1_5 l1_5.length c1_5)) (ds := []) #[false, false, false, false, false, false, false, false] (by kernel_rfl) rfl rfl ⟨(blk_cell BK107.out 0).trans rfl, (blk_cell BK107.out 1).trans rfl, (blk_cell BK107.out 2).trans rfl, (blk_cell BK107.out 3).trans rfl, (blk_cell BK107.out 4).trans rfl, (blk_cell BK107.out 5).trans rfl⟩ (fun hHeld => ?_); refine with_tabW space_measured.tab20 space_measured.bits20 (fun HT_ HW_ => ?_)
       generalize wc.drew = w41 at HO_108002 HO_108003 HO_108004 HO_108005 BK107 HB hHeld ⊢
       refine pure_ (i := 0) (N := some 80) (v := ?_) (a' := ?_) #[true, false, false, false, false, false, false, false] rfl rfl (any_of HT_.out (by kernel_rfl)) (fun _ _ _ h => h) (Or.inl ⟨by rfl, ?_⟩) ?_ ?_
       rotate_left
       ·intro w'
        go_simp
        with_reducible rfl
       rotate_left
       ·simp only [Act.put, List.setIfInBounds_toArray, List.set_cons_zero, List.set_cons_succ, i64_w, i32_w]
        rfl
       refine pure_ (i := 3) (N := some 83) (v := ?_) (a' := ?_) #[true, false, false, true, false, false, false, false] rfl rfl (any_of HT_.out (by kernel_rfl)) (fun _ _ _ h => h) (Or.inl ⟨by rfl, ?_⟩) ?_ ?_
       rotate_left
       ·intro w'
        go_simp
        with_reducible rfl
       rotate_left
       ·simp only [Act.put, List.setIfInBounds_toArray, List.set_cons_zero, List.set_cons_succ, i64_w, i32_w]
        rfl
       refine take_ (i := 1) (N := some 81) (v := ?_) (a' := ?_) #[true, true, false, true, false, false, false, false] rfl rfl (take_ofW HT_.out HW_.out (by kernel_rfl)) (fun _ _ _ h => h) (Or.inl ⟨by rfl, ?_⟩) hHeld ?_ ?_
       rotate_left
       ·rintro w' ⟨s0, s1, s2, s3, s4, s5⟩
        go_simp
        with_reducible rfl
       rotate_left
       ·simp only [Act.put, List.setIfInBounds_toArray, List.set_cons_zero, List.set_cons_succ, i64_w, i32_w]
        rfl
       refine take_ (i := 4) (N := some 84) (v := ?_) (a' := ?_) #[true, true, false, true, true, false, false, false] rfl rfl (take_ofW HT_.out HW_.out (by kernel_rfl)) (fun _ _ _ h => h) (Or.inl ⟨by rfl, ?_⟩) hHeld ?_ ?_
       rotate_left
       ·rintro w' ⟨s0, s1, s2, s3, s4, s5⟩
        go_simp
        with_reducible rfl
       rotate_left
       ·simp only [Act.put, List.setIfInBounds_toArray, List.set_cons_zero, List.set_cons_succ, i64_w, i32_w]
        rfl
       refine one_ (i := 2) (N := some 82) #[true, true, true, true, true, false, false, false] rfl rfl (one_of HT_.out (by kernel_rfl)) (by decide) (fun K hK => ?_)
       refine goes_ Try.func36 (by kernel_rfl) rfl #[.slice A1_4 l1_4.length c1_4] (by rfl) rfl rfl (by (simp only [List.map_toArray, List.map_cons, List.map_nil]); rfl) ?_
       with_reducible refine (slices_Clone_int_int.calls _ _ l1_4 t118 _ ?side1 ?side2 A38.out).mono ?_
       (case side1 => repeat (exact (Kd.V_reads' HO_108004.out).2.2))
       (case side2 => exact (Kd.V_reads' HO_108004.out).2.1)
       rintro e w42 ⟨v119, rfl, ho0, hb⟩
       refine ⟨_, rfl, ?_⟩
       have n0_ := Aside0.mk (Kd.V_elder' (by exact HO_108002.out) (Kd.R_base ho0) hb)
       have n1_ := Aside0.mk (Kd.V_elder' (by exact HO_108003.out) (Kd.R_base ho0) hb)
       have n2_ := Aside0.mk (Kd.V_elder' (by exact HO_108004.out) (Kd.R_base ho0) hb)
       have n3_ := Aside0.mk (Kd.V_elder' (by exact HO_108005.out) (Kd.R_base ho0) hb)
       have n4_ := Aside0.mk (Kd.R_lower (Kd.R_newM (M := fun k_ => (w.heap.size ≤ k_)) ho0 (below_size (HB.out)) (fun k_ h_ => h_)) (below_size (HB.out)))
       have n5_ := Aside0.mk (blk_below (g := gb107) (o := .cells #[.int .i64 a1_0, .slice A1_1 l1_1.length c1_1, .slice A1_2 l1_2.length c1_2, .slice A1_3 l1_3.length c1_3, .slice A1_4 l1_4.length c1_4, .slice A1_5 l1_5.length c1_5] 33 (0, 0)) (by exact BK107.out) hb)
       have n6_ := Aside0.mk (below_step (HB.out) hb)
       clear HO_108002 HO_108003 HO_108004 HO_108005 BK107 HB
       have HO_108002 := n0_
       have HO_108003 := n1_
       have HO_108004 := n2_
       have HO_108005 := n3_
       have HO120 := n4_
       have BK107 := n5_
       have HB := n6_
       clear n0_ n1_ n2_ n3_ n4_ n5_ n6_ hb ho0
       refine hK.out _ _ ⟨(blk_cell BK107.out 0).trans rfl, (blk_cell BK107.out 1).trans rfl, (blk_cell BK107.out 2).trans rfl, (blk_cell BK107.out 3).trans rfl, (blk_cell BK107.out 4).trans rfl, (blk_cell BK107.out 5).trans rfl⟩ (fun hHeld => ?_)
       clear hK K
       refine norm_ (a' := ?_) ?_ ?_
       rotate_left
       ·show Act.put _ (some 82) _ = _
        simp only [Act.put, List.setIfInBounds_toArray, List.set_cons_zero, List.set_cons_succ, i64_w, i32_w]
        rfl
       refine one_ (i := 5) (N := some 85) #[true, true, true, true, true, true, false, false] rfl rfl (one_of HT_.out (by kernel_rfl)) (by decide) (fun K hK => ?_)
       refine Kd.R_append_rows_step (Kd.int .i64) (w0 := w) w.heap.size (by rfl) (.tmp 82) (.tmp 84) 22 3 (.int .i64 0) 8 rfl Try.underlying22 info3 rfl (by decide) (by omega) v119 t118 l1_5 _ _ _ (fun k_ => (w.heap.size ≤ k_)) (fun _ => False) rfl rfl ?aO ?aR (fun _ _ h => h) (fun _ h => h.elim) ?aF ?aB ?aS ?aL ?_
       (case aR => repeat (exact (Kd.V_reads' HO_108005.out).2.2))
       (case aB => exact (HB.out))
       (case aF => exact (fun k_ hk => (Nat.le_trans (below_size (HB.out)) hk)))
       (case aO => exact (by exact Kd.R_mono HO120.out (fun _ hk => hk.1)))
       (case aS => exact (below_size (HB.out)))
       (case aL => have := LMc39.out; omega)
       intro v122 w43 ho hb hg hat
       rw [← Ny121.out] at ho
       have n0_ := Aside0.mk (Kd.V_afterv (ok := (fun k_ => ((P1_2_ k_ ∨ P1_3_ k_ ∨ P1_4_ k_ ∨ P1_5_ k_) ∨ w.heap.size ≤ k_) ∧ k_ ≠ gb107)) (by exact HO_108002.out) hg hat)
       have n1_ := Aside0.mk (Kd.V_afterv (ok := (fun k_ => ((P1_2_ k_ ∨ P1_3_ k_ ∨ P1_4_ k_ ∨ P1_5_ k_) ∨ w.heap.size ≤ k_) ∧ k_ ≠ gb107)) (by exact HO_108003.out) hg hat)
       have n2_ := Aside0.mk (Kd.V_afterv (ok := (fun k_ => ((P1_2_ k_ ∨ P1_3_ k_ ∨ P1_4_ k_ ∨ P1_5_ k_) ∨ w.heap.size ≤ k_) ∧ k_ ≠ gb107)) (by exact HO_108004.out) hg hat)
       have n3_ := Aside0.mk (Kd.V_afterv (ok := (fun k_ => ((P1_2_ k_ ∨ P1_3_ k_ ∨ P1_4_ k_ ∨ P1_5_ k_) ∨ w.heap.size ≤ k_) ∧ k_ ≠ gb107)) (by exact HO_108005.out) hg hat)
       have n4_ := Aside0.mk (blk_grown (g := gb107) (o := .cells #[.int .i64 a1_0, .slice A1_1 l1_1.length c1_1, .slice A1_2 l1_2.length c1_2, .slice A1_3 l1_3.length c1_3, .slice A1_4 l1_4.length c1_4, .slice A1_5 l1_5.length c1_5] 33 (0, 0)) (by exact BK107.out) hg (Kd.R_ne HO120.out BK107.out (by decide)))
       have n5_ := Aside0.mk (hb)
       have n6_ := Aside0.mk (ho)
       clear HO_108002 HO_108003 HO_108004 HO_108005 BK107 HB HO120
       have HO_108002 := n0_
       have HO_108003 := n1_
       have HO_108004 := n2_
       have HO_108005 := n3_
       have BK107 := n4_
       have HB := n5_
       have HO123 := n6_
       clear n0_ n1_ n2_ n3_ n4_ n5_ n6_ ho hb hg hat
       obtain ⟨Ao44, co44, eo44⟩ := Kd.R_slice HO123.out
       (subst eo44)
       refine hK.out _ _ ⟨(blk_cell BK107.out 0).trans rfl, (blk_cell BK107.out 1).trans rfl, (blk_cell BK107.out 2).trans rfl, (blk_cell BK107.out 3).trans rfl, (blk_cell BK107.out 4).trans rfl, (blk_cell BK107.out 5).trans rfl⟩ (fun hHeld => ?_)
       clear hK K
       refine norm_ (a' := ?_) ?_ ?_
       rotate_left
       ·show Act.put _ (some 85) _ = _
        simp only [Act.put, List.setIfInBounds_toArray, List.set_cons_zero, List.set_cons_succ, i64_w, i32_w]
        rfl
       refine one_ (i := 6) (N := some 86) #[true, true, true, true, true, true, true, false] rfl rfl (one_of HT_.out (by kernel_rfl)) (by decide) (fun K hK => ?_)
       refine goes_ Try.func40 (by kernel_rfl) rfl #[.int .i64 1, .slice Ao44 y121.length co44] (by rfl) rfl rfl (by (simp only [List.map_toArray, List.map_cons, List.map_nil]); rfl) ?_
       with_reducible refine (space_many.calls 1 _ _ y121 t124 _ ?side1 ?side2 A40.out).mono ?_
       (case side1 => repeat (exact (Kd.R_reads' HO123.out).2.2))
       (case side2 => exact (Kd.R_reads' HO123.out).2.1)
       rintro e w' ⟨rfl, ⟨nd, rfl⟩⟩
       refine ⟨_, rfl, ?_⟩
       refine hK.out _ _ ⟨(blk_cell BK107.out 0).trans rfl, (blk_cell BK107.out 1).trans rfl, (blk_cell BK107.out 2).trans rfl, (blk_cell BK107.out 3).trans rfl, (blk_cell BK107.out 4).trans rfl, (blk_cell BK107.out 5).trans rfl⟩ (fun hHeld => ?_)
       clear hK K
       refine norm_ (a' := ?_) ?_ ?_
       rotate_left
       ·show Act.put _ (some 86) _ = _
        simp only [Act.put, List.setIfInBounds_toArray, List.set_cons_zero, List.set_cons_succ, i64_w, i32_w]
        rfl
       refine pure_ (i := 7) (N := some 6) (v := ?_) (a' := ?_) #[true, true, true, true, true, true, true, true] rfl rfl (any_of HT_.out (by kernel_rfl)) (fun _ _ _ h => h) (Or.inl ⟨by rfl, ?_⟩) ?_ ?_
       rotate_left
       ·intro w'
        go_simp
        with_reducible rfl
       rotate_left
       ·simp only [Act.put, List.setIfInBounds_toArray, List.set_cons_zero, List.set_cons_succ, i64_w, i32_w]
        rfl
       refine done_ (done_of HT_.out (by kernel_rfl)) ?_
       go_wp2
       go_loopg [89] kj28 (fun kq v89 w' => ∃ (x89_3 : Int), v89 = .int .i64 x89_3 ∧ Aside0 (space_measured.l2 kq l0 t124 (l0.length : Int) x89_3 a1_0 l1_1 l1_2 l1_3 l1_4 l1_5 = some (r1, r2)) ∧ Aside0 (kq ≤ kj28) ∧ Aside0 (Kd.V (Kd.int .i64) 3 w' w.heap.size (fun k_ => ((P1_2_ k_ ∨ P1_3_ k_ ∨ P1_4_ k_ ∨ P1_5_ k_) ∨ w.heap.size ≤ k_) ∧ k_ ≠ gb107) (.slice A1_2 l1_2.length c1_2) l1_2) ∧ Aside0 (Kd.V (Kd.int .i64) 3 w' w.heap.size (fun k_ => ((P1_2_ k_ ∨ P1_3_ k_ ∨ P1_4_ k_ ∨ P1_5_ k_) ∨ w.heap.size ≤ k_) ∧ k_ ≠ gb107) (.slice A1_3 l1_3.length c1_3) l1_3) ∧ Aside0 (Kd.V (Kd.int .i64) 3 w' w.heap.size (fun k_ => ((P1_2_ k_ ∨ P1_3_ k_ ∨ P1_4_ k_ ∨ P1_5_ k_) ∨ w.heap.size ≤ k_) ∧ k_ ≠ gb107) (.slice A1_4 l1_4.length c1_4) l1_4) ∧ Aside0 (Kd.V (Kd.int .i64) 3 w' w.heap.size (fun k_ => ((P1_2_ k_ ∨ P1_3_ k_ ∨ P1_4_ k_ ∨ P1_5_ k_) ∨ w.heap.size ≤ k_) ∧ k_ ≠ gb107) (.slice A1_5 l1_5.length c1_5) l1_5) ∧ Aside0 (w'.heap[gb107]? = some (.cells #[.int .i64 a1_0, (.slice A1_1 l1_1.length c1_1), (.slice A1_2 l1_2.length c1_2), (.slice A1_3 l1_3.length c1_3), (.slice A1_4 l1_4.length c1_4), (.slice A1_5 l1_5.length c1_5)] 33 (0, 0))) ∧ Aside0 (Below w.heap.size w w'))
       case atStart => exact ⟨(0), (by rfl), H', ⟨Nat.le_refl _⟩, ⟨by (with_reducible repeat (apply Kd.V_drewN)); exact Kd.V_mono HO_108002.out (fun _ hk => ⟨hk.1.1, hk.1.2⟩)⟩, ⟨by (with_reducible repeat (apply Kd.V_drewN)); exact Kd.V_mono HO_108003.out (fun _ hk => ⟨hk.1.1, hk.1.2⟩)⟩, ⟨by (with_reducible repeat (apply Kd.V_drewN)); exact Kd.V_mono HO_108004.out (fun _ hk => ⟨hk.1.1, hk.1.2⟩)⟩, ⟨by (with_reducible repeat (apply Kd.V_drewN)); exact Kd.V_mono HO_108005.out (fun _ hk => ⟨hk.1.1, hk.1.2⟩)⟩, ⟨by (with_reducible repeat (refine blk_drewN ?_ _)); exact BK107.out⟩, ⟨by repeat ((with_reducible first | exact HB.out | apply pw_below_drewN))⟩⟩
       case round =>
        clear H'
        obtain ⟨x89_3, rfl, HA, HK3, HO_108002, HO_108003, HO_108004, HO_108005, BK107, HB⟩ := hrel
        cases gk with
        | zero => exact absurd HA.out (by simp [space_measured.l2])
        | succ k3 =>
         have H := HA.out
         clear HA
         simp only [space_measured.l2] at H
         by_cases c45 : x89_3 < (l0.length : Int)
         ·rw [if_pos c45] at H
          have c45b0 : decide (x89_3 < (l0.length : Int)) = true := decide_eq_true c45
          clear c45
          by_cases c46 : t124 > 0
          ·rw [if_pos c46] at H
           have c46b0 : decide (0 < t124) = true := decide_eq_true c46
           clear c46
           by_cases c47 : 0 ≤ x89_3
           case neg => rw [if_neg c47] at H; exact absurd H (by simp)
           rw [if_pos c47] at H
           have c47b0 : decide (0 ≤ x89_3) = true := decide_eq_true c47
           clear c47
           by_cases c48 : x89_3 < (l0.length : Int)
           case neg => rw [if_neg c48] at H; exact absurd H (by simp)
           rw [if_pos c48] at H
           have c48b0 : decide (x89_3 < (l0.length : Int)) = true := decide_eq_true c48
           clear c48
           by_cases c49 : x89_3 < (l1_2.length : Int)
           case neg => rw [if_neg c49] at H; exact absurd H (by simp)
           rw [if_pos c49] at H
           have c49b0 : decide (x89_3 < (l1_2.length : Int)) = true := decide_eq_true c49
           clear c49
           by_cases c50 : x89_3 < (l1_3.length : Int)
           case neg => rw [if_neg c50] at H; exact absurd H (by simp)
           rw [if_pos c50] at H
           have c50b0 : decide (x89_3 < (l1_3.length : Int)) = true := decide_eq_true c50
           clear c50
           by_cases c51 : x89_3 < (l1_4.length : Int)
           case neg => rw [if_neg c51] at H; exact absurd H (by simp)
           rw [if_pos c51] at H
           have c51b0 : decide (x89_3 < (l1_4.length : Int)) = true := decide_eq_true c51
           clear c51
           by_cases c52 : x89_3 < (l1_5.length : Int)
           case neg => rw [if_neg c52] at H; exact absurd H (by simp)
           rw [if_pos c52] at H
           have c52b0 : decide (x89_3 < (l1_5.length : Int)) = true := decide_eq_true c52
           clear c52
           replace H := Option.bind_eq_some_iff.mp H
           obtain ⟨t130, A530, H⟩ := H
           replace H : (if t130 = true then (some (0, 17)) else (space_measured.l2 k3 l0 t124 (l0.length : Int) (wrap64 (x89_3 + 1)) a1_0 l1_1 l1_2 l1_3 l1_4 l1_5)) = some (r1, r2) := H
           have A53 := Aside0.mk A530
           clear A530
           by_cases c54 : t130 = true
           ·subst c54
            have H1 : (some (0, 17)) = some (r1, r2) := by rw [if_pos rfl] at H; exact H
            clear H
            have H := H1
            clear H1
            simp only [Option.some.injEq, Prod.mk.injEq] at H
            obtain ⟨rfl, rfl⟩ := H
            go_wp2
            have n0_ := Aside0.mk (Kd.V_drew HO_108002.out)
            have n1_ := Aside0.mk (Kd.V_drew HO_108003.out)
            have n2_ := Aside0.mk (Kd.V_drew HO_108004.out)
            have n3_ := Aside0.mk (Kd.V_drew HO_108005.out)
            have n4_ := Aside0.mk (blk_drew BK107.out)
            have n5_ := Aside0.mk (below_drew1 HB.out)
            clear HO_108002 HO_108003 HO_108004 HO_108005 BK107 HB
            have HO_108002 := n0_
            have HO_108003 := n1_
            have HO_108004 := n2_
            have HO_108005 := n3_
            have BK107 := n4_
            have HB := n5_
            clear n0_ n1_ n2_ n3_ n4_ n5_
            have p125 : 0 ≤ (x89_3 : Int) := of_decide_eq_true (by (with_reducible assumption))
            have q125 : x89_3 < (l0.length : Int) := of_decide_eq_true (by (with_reducible assumption))
            obtain ⟨ad125, e125, hx125_0⟩ := Kd.at_int HR0.out x89_3 p125 q125
            have hw125_0 := hx125_0
            cases e125
            replace hx125_0 := (HB.out.cell (World.block_lt_of_cell? w _ hx125_0)).trans hx125_0
            replace p125 := eq_true p125
            replace q125 := eq_true q125
            have p126 : 0 ≤ (x89_3 : Int) := of_decide_eq_true (by (with_reducible assumption))
            have q126 : x89_3 < (l1_2.length : Int) := of_decide_eq_true (by (with_reducible assumption))
            obtain ⟨ad126, e126, hx126_0⟩ := Kd.at_int (Kd.V_reads' HO_108002.out).2.2 x89_3 p126 q126
            cases e126
            replace p126 := eq_true p126
            replace q126 := eq_true q126
            have p127 : 0 ≤ (x89_3 : Int) := of_decide_eq_true (by (with_reducible assumption))
            have q127 : x89_3 < (l1_3.length : Int) := of_decide_eq_true (by (with_reducible assumption))
            obtain ⟨ad127, e127, hx127_0⟩ := Kd.at_int (Kd.V_reads' HO_108003.out).2.2 x89_3 p127 q127
            cases e127
            replace p127 := eq_true p127
            replace q127 := eq_true q127
            have p128 : 0 ≤ (x89_3 : Int) := of_decide_eq_true (by (with_reducible assumption))
            have q128 : x89_3 < (l1_4.length : Int) := of_decide_eq_true (by (with_reducible assumption))
            obtain ⟨ad128, e128, hx128_0⟩ := Kd.at_int (Kd.V_reads' HO_108004.out).2.2 x89_3 p128 q128
            cases e128
            replace p128 := eq_true p128
            replace q128 := eq_true q128
            have p129 : 0 ≤ (x89_3 : Int) := of_decide_eq_true (by (with_reducible assumption))
            have q129 : x89_3 < (l1_5.length : Int) := of_decide_eq_true (by (with_reducible assumption))
            obtain ⟨ad129, e129, hx129_0⟩ := Kd.at_int (Kd.V_reads' HO_108005.out).2.2 x89_3 p129 q129
            cases e129
            replace p129 := eq_true p129
            replace q129 := eq_true q129
            refine start_ (n := 29) (S := fun w' => w'.cell? ⟨gb107, 0, none⟩ = some (.int .i64 a1_0) ∧ w'.cell? ⟨gb107, 1, none⟩ = some (.slice A1_1 l1_1.length c1_1) ∧ w'.cell? ⟨gb107, 2, none⟩ = some (.slice (some ad126) l1_2.length c1_2) ∧ w'.cell? ⟨gb107, 3, none⟩ = some (.slice (some ad127) l1_3.length c1_3) ∧ w'.cell? ⟨gb107, 4, none⟩ = some (.slice (some ad128) l1_4.length c1_4) ∧ w'.cell? ⟨gb107, 5, none⟩ = some (.slice (some ad129) l1_5.length c1_5) ∧ w'.cell? (ad125.add (x89_3).toNat) = some (.int .i64 (rd l0 x89_3)) ∧ w'.cell? (ad126.add (x89_3).toNat) = some (.int .i64 (rd l1_2 x89_3)) ∧ w'.cell? (ad127.add (x89_3).toNat) = some (.int .i64 (rd l1_3 x89_3)) ∧ w'.cell? (ad128.add (x89_3).toNat) = some (.int .i64 (rd l1_4 x89_3)) ∧ w'.cell? (ad129.add (x89_3).toNat) = some (.int .i64 (rd l1_5 x89_3))) (ds := []) #[false, false, false, false, false, false, false, false, false, false, false, false, false, false, false, false, false, false, false, false, false, false, false, false, false, false, false, false, false] (by kernel_rfl) rfl rfl ⟨(blk_cell BK107.out 0).trans rfl, (blk_cell BK107.out 1).trans rfl, (blk_cell BK107.out 2).trans rfl, (blk_cell BK107.out 3).trans rfl, (blk_cell BK107.out 4).trans rfl, (blk_cell BK107.out 5).trans rfl, ((HB.out.cell (World.block_lt_of_cell? w _ hw125_0)).trans hw125_0), hx126_0, hx127_0, hx128_0, hx129_0⟩ (fun hHeld => ?_); refine with_tabW space_measured.tab24 space_measured.bits24 (fun HT_ HW_ => ?_)
            generalize wr.drew = w55 at HO_108002 HO_108003 HO_108004 HO_108005 BK107 HB hx125_0 hx126_0 hx127_0 hx128_0 hx129_0 hHeld ⊢
            refine pure_ (i := 0) (N := some 92) (v := ?_) (a' := ?_) #[true, false, false, false, false, false, false, false, false, false, false, false, false, false, false, false, false, false, false, false, false, false, false, false, false, false, false, false, false] rfl rfl (any_of HT_.out (by kernel_rfl)) (fun _ _ _ h => h) (Or.inl ⟨by rfl, ?_⟩) ?_ ?_
            rotate_left
            ·intro w'
             go_simp
             with_reducible rfl
            rotate_left
            ·simp only [Act.put, List.setIfInBounds_toArray, List.set_cons_zero, List.set_cons_succ, i64_w, i32_w]
             rfl
            refine pure_ (i := 1) (N := some 93) (v := ?_) (a' := ?_) #[true, true, false, false, false, false, false, false, false, false, false, false, false, false, false, false, false, false, false, false, false, false, false, false, false, false, false, false, false] rfl rfl (any_of HT_.out (by kernel_rfl)) (fun _ _ _ h => h) (Or.inl ⟨by rfl, ?_⟩) ?_ ?_
            rotate_left
            ·intro w'
             go_simp
             with_reducible rfl
            rotate_left
            ·simp only [Act.put, List.setIfInBounds_toArray, List.set_cons_zero, List.set_cons_succ, i64_w, i32_w]
             rfl
            refine pure_ (i := 2) (N := some 94) (v := ?_) (a' := ?_) #[true, true, true, false, false, false, false, false, false, false, false, false, false, false, false, false, false, false, false, false, false, false, false, false, false, false, false, false, false] rfl rfl (any_of HT_.out (by kernel_rfl)) (fun _ _ _ h => h) (Or.inl ⟨by rfl, ?_⟩) ?_ ?_
            rotate_left
            ·intro w'
             go_simp
             with_reducible rfl
            rotate_left
            ·simp only [Act.put, List.setIfInBounds_toArray, List.set_cons_zero, List.set_cons_succ, i64_w, i32_w]
             rfl
            refine pure_ (i := 3) (N := some 95) (v := ?_) (a' := ?_) #[true, true, true, true, false, false, false, false, false, false, false, false, false, false, false, false, false, false, false, false, false, false, false, false, false, false, false, false, false] rfl rfl (any_of HT_.out (by kernel_rfl)) (fun _ _ _ h => h) (Or.inl ⟨by rfl, ?_⟩) ?_ ?_
            rotate_left
            ·intro w'
             go_simp
             with_reducible rfl
            rotate_left
            ·simp only [Act.put, List.setIfInBounds_toArray, List.set_cons_zero, List.set_cons_succ, i64_w, i32_w]
             rfl
            refine pure_ (i := 4) (N := some 96) (v := ?_) (a' := ?_) #[true, true, true, true, true, false, false, false, false, false, false, false, false, false, false, false, false, false, false, false, false, false, false, false, false, false, false, false, false] rfl rfl (any_of HT_.out (by kernel_rfl)) (fun _ _ _ h => h) (Or.inl ⟨by rfl, ?_⟩) ?_ ?_
            rotate_left
            ·intro w'
             go_simp
             with_reducible rfl
            rotate_left
            ·simp only [Act.put, List.setIfInBounds_toArray, List.set_cons_zero, List.set_cons_succ, i64_w, i32_w]
             rfl
            refine pure_ (i := 5) (N := some 97) (v := ?_) (a' := ?_) #[true, true, true, true, true, true, false, false, false, false, false, false, false, false, false, false, false, false, false, false, false, false, false, false, false, false, false, false, false] rfl rfl (any_of HT_.out (by kernel_rfl)) (fun _ _ _ h => h) (Or.inl ⟨by rfl, ?_⟩) ?_ ?_
            rotate_left
            ·intro w'
             go_simp
             with_reducible rfl
            rotate_left
            ·simp only [Act.put, List.setIfInBounds_toArray, List.set_cons_zero, List.set_cons_succ, i64_w, i32_w]
             rfl
            refine pure_ (i := 7) (N := some 99) (v := ?_) (a' := ?_) #[true, true, true, true, true, true, false, true, false, false, false, false, false, false, false, false, false, false, false, false, false, false, false, false, false, false, false, false, false] rfl rfl (any_of HT_.out (by kernel_rfl)) (fun _ _ _ h => h) (Or.inl ⟨by rfl, ?_⟩) ?_ ?_
            rotate_left
            ·intro w'
             go_simp
             with_reducible rfl
            rotate_left
            ·simp only [Act.put, List.setIfInBounds_toArray, List.set_cons_zero, List.set_cons_succ, i64_w, i32_w]
             rfl
            refine pure_ (i := 9) (N := some 101) (v := ?_) (a' := ?_) #[true, true, true, true, true, true, false, true, false, true, false, false, false, false, false, false, false, false, false, false, false, false, false, false, false, false, false, false, false] rfl rfl (any_of HT_.out (by kernel_rfl)) (fun _ _ _ h => h) (Or.inl ⟨by rfl, ?_⟩) ?_ ?_
            rotate_left
            ·intro w'
             go_simp
             with_reducible rfl
            rotate_left
            ·simp only [Act.put, List.setIfInBounds_toArray, List.set_cons_zero, List.set_cons_succ, i64_w, i32_w]
             rfl
            refine pure_ (i := 12) (N := some 104) (v := ?_) (a' := ?_) #[true, true, true, true, true, true, false, true, false, true, false, false, true, false, false, false, false, false, false, false, false, false, false, false, false, false, false, false, false] rfl rfl (any_of HT_.out (by kernel_rfl)) (fun _ _ _ h => h) (Or.inl ⟨by rfl, ?_⟩) ?_ ?_
            rotate_left
            ·intro w'
             go_simp
             with_reducible rfl
            rotate_left
            ·simp only [Act.put, List.setIfInBounds_toArray, List.set_cons_zero, List.set_cons_succ, i64_w, i32_w]
             rfl
            refine pure_ (i := 14) (N := some 106) (v := ?_) (a' := ?_) #[true, true, true, true, true, true, false, true, false, true, false, false, true, false, true, false, false, false, false, false, false, false, false, false, false, false, false, false, false] rfl rfl (any_of HT_.out (by kernel_rfl)) (fun _ _ _ h => h) (Or.inl ⟨by rfl, ?_⟩) ?_ ?_
            rotate_left
            ·intro w'
             go_simp
             with_reducible rfl
            rotate_left
            ·simp only [Act.put, List.setIfInBounds_toArray, List.set_cons_zero, List.set_cons_succ, i64_w, i32_w]
             rfl
            refine pure_ (i := 17) (N := some 109) (v := ?_) (a' := ?_) #[true, true, true, true, true, true, false, true, false, true, false, false, true, false, true, false, false, true, false, false, false, false, false, false, false, false, false, false, false] rfl rfl (any_of HT_.out (by kernel_rfl)) (fun _ _ _ h => h) (Or.inl ⟨by rfl, ?_⟩) ?_ ?_
            rotate_left
            ·intro w'
             go_simp
             with_reducible rfl
            rotate_left
            ·simp only [Act.put, List.setIfInBounds_toArray, List.set_cons_zero, List.set_cons_succ, i64_w, i32_w]
             rfl
            refine pure_ (i := 19) (N := some 111) (v := ?_) (a' := ?_) #[true, true, true, true, true, true, false, true, false, true, false, false, true, false, true, false, false, true, false, true, false, false, false, false, false, false, false, false, false] rfl rfl (any_of HT_.out (by kernel_rfl)) (fun _ _ _ h => h) (Or.inl ⟨by rfl, ?_⟩) ?_ ?_
            rotate_left
            ·intro w'
             go_simp
             with_reducible rfl
            rotate_left
            ·simp only [Act.put, List.setIfInBounds_toArray, List.set_cons_zero, List.set_cons_succ, i64_w, i32_w]
             rfl
            refine pure_ (i := 22) (N := some 114) (v := ?_) (a' := ?_) #[true, true, true, true, true, true, false, true, false, true, false, false, true, false, true, false, false, true, false, true, false, false, true, false, false, false, false, false, false] rfl rfl (any_of HT_.out (by kernel_rfl)) (fun _ _ _ h => h) (Or.inl ⟨by rfl, ?_⟩) ?_ ?_
            rotate_left
            ·intro w'
             go_simp
             with_reducible rfl
            rotate_left
            ·simp only [Act.put, List.setIfInBounds_toArray, List.set_cons_zero, List.set_cons_succ, i64_w, i32_w]
             rfl
            refine pure_ (i := 24) (N := some 116) (v := ?_) (a' := ?_) #[true, true, true, true, true, true, false, true, false, true, false, false, true, false, true, false, false, true, false, true, false, false, true, false, true, false, false, false, false] rfl rfl (any_of HT_.out (by kernel_rfl)) (fun _ _ _ h => h) (Or.inl ⟨by rfl, ?_⟩) ?_ ?_
            rotate_left
            ·intro w'
             go_simp
             with_reducible rfl
            rotate_left
            ·simp only [Act.put, List.setIfInBounds_toArray, List.set_cons_zero, List.set_cons_succ, i64_w, i32_w]
             rfl
            refine take_ (i := 6) (N := some 98) (v := ?_) (a' := ?_) #[true, true, true, true, true, true, true, true, false, true, false, false, true, false, true, false, false, true, false, true, false, false, true, false, true, false, false, false, false] rfl rfl (take_ofW HT_.out HW_.out (by kernel_rfl)) (fun _ _ _ h => h) (Or.inl ⟨by rfl, ?_⟩) hHeld ?_ ?_
            rotate_left
            ·rintro w' ⟨s0, s1, s2, s3, s4, s5, s6, s7, s8, s9, s10⟩
             go_simp
             with_reducible rfl
            rotate_left
            ·simp only [Act.put, List.setIfInBounds_toArray, List.set_cons_zero, List.set_cons_succ, i64_w, i32_w]
             rfl
            refine take_ (i := 8) (N := some 100) (v := ?_) (a' := ?_) #[true, true, true, true, true, true, true, true, true, true, false, false, true, false, true, false, false, true, false, true, false, false, true, false, true, false, false, false, false] rfl rfl (take_ofW HT_.out HW_.out (by kernel_rfl)) (fun _ _ _ h => h) (Or.inl ⟨by rfl, ?_⟩) hHeld ?_ ?_
            rotate_left
            ·rintro w' ⟨s0, s1, s2, s3, s4, s5, s6, s7, s8, s9, s10⟩
             go_simp
             with_reducible rfl
            rotate_left
            ·simp only [Act.put, List.setIfInBounds_toArray, List.set_cons_zero, List.set_cons_succ, i64_w, i32_w]
             rfl
            refine pure_ (i := 10) (N := some 102) (v := ?_) (a' := ?_) #[true, true, true, true, true, true, true, true, true, true, true, false, true, false, true, false, false, true, false, true, false, false, true, false, true, false, false, false, false] rfl rfl (any_of HT_.out (by kernel_rfl)) (fun _ _ _ h => h) (Or.inl ⟨by rfl, ?_⟩) ?_ ?_
            rotate_left
            ·intro w'
             go_simp
             with_reducible rfl
            rotate_left
            ·simp only [Act.put, List.setIfInBounds_toArray, List.set_cons_zero, List.set_cons_succ, i64_w, i32_w]
             rfl
            refine take_ (i := 11) (N := some 103) (v := ?_) (a' := ?_) #[true, true, true, true, true, true, true, true, true, true, true, true, true, false, true, false, false, true, false, true, false, false, true, false, true, false, false, false, false] rfl rfl (take_ofW HT_.out HW_.out (by kernel_rfl)) (fun _ _ _ h => h) (Or.inl ⟨by rfl, ?_⟩) hHeld ?_ ?_
            rotate_left
            ·rintro w' ⟨s0, s1, s2, s3, s4, s5, s6, s7, s8, s9, s10⟩
             go_simp
             with_reducible rfl
            rotate_left
            ·simp only [Act.put, List.setIfInBounds_toArray, List.set_cons_zero, List.set_cons_succ, i64_w, i32_w]
             rfl
            refine take_ (i := 13) (N := some 105) (v := ?_) (a' := ?_) #[true, true, true, true, true, true, true, true, true, true, true, true, true, true, true, false, false, true, false, true, false, false, true, false, true, false, false, false, false] rfl rfl (take_ofW HT_.out HW_.out (by kernel_rfl)) (fun _ _ _ h => h) (Or.inl ⟨by rfl, ?_⟩) hHeld ?_ ?_
            rotate_left
            ·rintro w' ⟨s0, s1, s2, s3, s4, s5, s6, s7, s8, s9, s10⟩
             go_simp
             with_reducible rfl
            rotate_left
            ·simp only [Act.put, List.setIfInBounds_toArray, List.set_cons_zero, List.set_cons_succ, i64_w, i32_w]
             rfl
            refine pure_ (i := 15) (N := some 107) (v := ?_) (a' := ?_) #[true, true, true, true, true, true, true, true, true, true, true, true, true, true, true, true, false, true, false, true, false, false, true, false, true, false, false, false, false] rfl rfl (any_of HT_.out (by kernel_rfl)) (fun _ _ _ h => h) (Or.inl ⟨by rfl, ?_⟩) ?_ ?_
            rotate_left
            ·intro w'
             go_simp
             with_reducible rfl
            rotate_left
            ·simp only [Act.put, List.setIfInBounds_toArray, List.set_cons_zero, List.set_cons_succ, i64_w, i32_w]
             rfl
            refine take_ (i := 16) (N := some 108) (v := ?_) (a' := ?_) #[true, true, true, true, true, true, true, true, true, true, true, true, true, true, true, true, true, true, false, true, false, false, true, false, true, false, false, false, false] rfl rfl (take_ofW HT_.out HW_.out (by kernel_rfl)) (fun _ _ _ h => h) (Or.inl ⟨by rfl, ?_⟩) hHeld ?_ ?_
            rotate_left
            ·rintro w' ⟨s0, s1, s2, s3, s4, s5, s6, s7, s8, s9, s10⟩
             go_simp
             with_reducible rfl
            rotate_left
            ·simp only [Act.put, List.setIfInBounds_toArray, List.set_cons_zero, List.set_cons_succ, i64_w, i32_w]
             rfl
            refine take_ (i := 18) (N := some 110) (v := ?_) (a' := ?_) #[true, true, true, true, true, true, true, true, true, true, true, true, true, true, true, true, true, true, true, true, false, false, true, false, true, false, false, false, false] rfl rfl (take_ofW HT_.out HW_.out (by kernel_rfl)) (fun _ _ _ h => h) (Or.inl ⟨by rfl, ?_⟩) hHeld ?_ ?_
            rotate_left
            ·rintro w' ⟨s0, s1, s2, s3, s4, s5, s6, s7, s8, s9, s10⟩
             go_simp
             with_reducible rfl
            rotate_left
            ·simp only [Act.put, List.setIfInBounds_toArray, List.set_cons_zero, List.set_cons_succ, i64_w, i32_w]
             rfl
            refine pure_ (i := 20) (N := some 112) (v := ?_) (a' := ?_) #[true, true, true, true, true, true, true, true, true, true, true, true, true, true, true, true, true, true, true, true, true, false, true, false, true, false, false, false, false] rfl rfl (any_of HT_.out (by kernel_rfl)) (fun _ _ _ h => h) (Or.inl ⟨by rfl, ?_⟩) ?_ ?_
            rotate_left
            ·intro w'
             go_simp
             with_reducible rfl
            rotate_left
            ·simp only [Act.put, List.setIfInBounds_toArray, List.set_cons_zero, List.set_cons_succ, i64_w, i32_w]
             rfl
            refine take_ (i := 21) (N := some 113) (v := ?_) (a' := ?_) #[true, true, true, true, true, true, true, true, true, true, true, true, true, true, true, true, true, true, true, true, true, true, true, false, true, false, false, false, false] rfl rfl (take_ofW HT_.out HW_.out (by kernel_rfl)) (fun _ _ _ h => h) (Or.inl ⟨by rfl, ?_⟩) hHeld ?_ ?_
            rotate_left
            ·rintro w' ⟨s0, s1, s2, s3, s4, s5, s6, s7, s8, s9, s10⟩
             go_simp
             with_reducible rfl
            rotate_left
            ·simp only [Act.put, List.setIfInBounds_toArray, List.set_cons_zero, List.set_cons_succ, i64_w, i32_w]
             rfl
            refine take_ (i := 23) (N := some 115) (v := ?_) (a' := ?_) #[true, true, true, true, true, true, true, true, true, true, true, true, true, true, true, true, true, true, true, true, true, true, true, true, true, false, false, false, false] rfl rfl (take_ofW HT_.out HW_.out (by kernel_rfl)) (fun _ _ _ h => h) (Or.inl ⟨by rfl, ?_⟩) hHeld ?_ ?_
            rotate_left
            ·rintro w' ⟨s0, s1, s2, s3, s4, s5, s6, s7, s8, s9, s10⟩
             go_simp
             with_reducible rfl
            rotate_left
            ·simp only [Act.put, List.setIfInBounds_toArray, List.set_cons_zero, List.set_cons_succ, i64_w, i32_w]
             rfl
            refine pure_ (i := 25) (N := some 117) (v := ?_) (a' := ?_) #[true, true, true, true, true, true, true, true, true, true, true, true, true, true, true, true, true, true, true, true, true, true, true, true, true, true, false, false, false] rfl rfl (any_of HT_.out (by kernel_rfl)) (fun _ _ _ h => h) (Or.inl ⟨by rfl, ?_⟩) ?_ ?_
            rotate_left
            ·intro w'
             go_simp
             with_reducible rfl
            rotate_left
            ·simp only [Act.put, List.setIfInBounds_toArray, List.set_cons_zero, List.set_cons_succ, i64_w, i32_w]
             rfl
            refine take_ (i := 26) (N := some 118) (v := ?_) (a' := ?_) #[true, true, true, true, true, true, true, true, true, true, true, true, true, true, true, true, true, true, true, true, true, true, true, true, true, true, true, false, false] rfl rfl (take_ofW HT_.out HW_.out (by kernel_rfl)) (fun _ _ _ h => h) (Or.inl ⟨by rfl, ?_⟩) hHeld ?_ ?_
            rotate_left
            ·rintro w' ⟨s0, s1, s2, s3, s4, s5, s6, s7, s8, s9, s10⟩
             go_simp
             with_reducible rfl
            rotate_left
            ·simp only [Act.put, List.setIfInBounds_toArray, List.set_cons_zero, List.set_cons_succ, i64_w, i32_w]
             rfl
            refine one_ (i := 27) (N := some 119) #[true, true, true, true, true, true, true, true, true, true, true, true, true, true, true, true, true, true, true, true, true, true, true, true, true, true, true, true, false] rfl rfl (one_of HT_.out (by kernel_rfl)) (by decide) (fun K hK => ?_)
            refine goes_ Try.func41 (by kernel_rfl) rfl #[.int .i64 (rd l0 x89_3), .int .i64 (rd l1_2 x89_3), .int .i64 (rd l1_3 x89_3), .int .i64 (rd l1_4 x89_3), .int .i64 (rd l1_5 x89_3)] (by rfl) rfl rfl (by (simp only [List.map_toArray, List.map_cons, List.map_nil]); rfl) ?_
            with_reducible refine (space_beyond.calls (rd l0 x89_3) (rd l1_2 x89_3) (rd l1_3 x89_3) (rd l1_4 x89_3) (rd l1_5 x89_3) true _ A53.out).mono ?_
            rintro e w' ⟨rfl, ⟨nd, rfl⟩⟩
            refine ⟨_, rfl, ?_⟩
            refine hK.out _ _ ⟨(blk_cell BK107.out 0).trans rfl, (blk_cell BK107.out 1).trans rfl, (blk_cell BK107.out 2).trans rfl, (blk_cell BK107.out 3).trans rfl, (blk_cell BK107.out 4).trans rfl, (blk_cell BK107.out 5).trans rfl, ((HB.out.cell (World.block_lt_of_cell? w _ hw125_0)).trans hw125_0), hHeld.2.2.2.2.2.2.2.1, hHeld.2.2.2.2.2.2.2.2.1, hHeld.2.2.2.2.2.2.2.2.2.1, hHeld.2.2.2.2.2.2.2.2.2.2⟩ (fun hHeld => ?_)
            clear hK K
            refine norm_ (a' := ?_) ?_ ?_
            rotate_left
            ·show Act.put _ (some 119) _ = _
             simp only [Act.put, List.setIfInBounds_toArray, List.set_cons_zero, List.set_cons_succ, i64_w, i32_w]
             rfl
            refine pure_ (i := 28) (N := some 120) (v := ?_) (a' := ?_) #[true, true, true, true, true, true, true, true, true, true, true, true, true, true, true, true, true, true, true, true, true, true, true, true, true, true, true, true, true] rfl rfl (any_of HT_.out (by kernel_rfl)) (fun _ _ _ h => h) (Or.inl ⟨by rfl, ?_⟩) ?_ ?_
            rotate_left
            ·intro w'
             go_simp
             with_reducible rfl
            rotate_left
            ·simp only [Act.put, List.setIfInBounds_toArray, List.set_cons_zero, List.set_cons_succ, i64_w, i32_w]
             rfl
            refine done_ (done_of HT_.out (by kernel_rfl)) ?_
            go_wp2
            go_ret2
            exact ⟨by rfl, by repeat ((with_reducible first | exact HB.out | apply pw_below_drewN))⟩
           replace c54 := Bool.eq_false_iff.mpr c54
           subst c54
           have H1 : (space_measured.l2 k3 l0 t124 (l0.length : Int) (wrap64 (x89_3 + 1)) a1_0 l1_1 l1_2 l1_3 l1_4 l1_5) = some (r1, r2) := by rw [if_neg (show ¬ (false = true) by decide)] at H; exact H
           clear H
           have H := H1
           clear H1
           have H' := Aside0.mk H
           clear H
           go_wp2
           have n0_ := Aside0.mk (Kd.V_drew HO_108002.out)
           have n1_ := Aside0.mk (Kd.V_drew HO_108003.out)
           have n2_ := Aside0.mk (Kd.V_drew HO_108004.out)
           have n3_ := Aside0.mk (Kd.V_drew HO_108005.out)
           have n4_ := Aside0.mk (blk_drew BK107.out)
           have n5_ := Aside0.mk (below_drew1 HB.out)
           clear HO_108002 HO_108003 HO_108004 HO_108005 BK107 HB
           have HO_108002 := n0_
           have HO_108003 := n1_
           have HO_108004 := n2_
           have HO_108005 := n3_
           have BK107 := n4_
           have HB := n5_
           clear n0_ n1_ n2_ n3_ n4_ n5_
           have p125 : 0 ≤ (x89_3 : Int) := of_decide_eq_true (by (with_reducible assumption))
           have q125 : x89_3 < (l0.length : Int) := of_decide_eq_true (by (with_reducible assumption))
           obtain ⟨ad125, e125, hx125_0⟩ := Kd.at_int HR0.out x89_3 p125 q125
           have hw125_0 := hx125_0
           cases e125
           replace hx125_0 := (HB.out.cell (World.block_lt_of_cell? w _ hx125_0)).trans hx125_0
           replace p125 := eq_true p125
           replace q125 := eq_true q125
           have p126 : 0 ≤ (x89_3 : Int) := of_decide_eq_true (by (with_reducible assumption))
           have q126 : x89_3 < (l1_2.length : Int) := of_decide_eq_true (by (with_reducible assumption))
           obtain ⟨ad126, e126, hx126_0⟩ := Kd.at_int (Kd.V_reads' HO_108002.out).2.2 x89_3 p126 q126
           cases e126
           replace p126 := eq_true p126
           replace q126 := eq_true q126
           have p127 : 0 ≤ (x89_3 : Int) := of_decide_eq_true (by (with_reducible assumption))
           have q127 : x89_3 < (l1_3.length : Int) := of_decide_eq_true (by (with_reducible assumption))
           obtain ⟨ad127, e127, hx127_0⟩ := Kd.at_int (Kd.V_reads' HO_108003.out).2.2 x89_3 p127 q127
           cases e127
           replace p127 := eq_true p127
           replace q127 := eq_true q127
           have p128 : 0 ≤ (x89_3 : Int) := of_decide_eq_true (by (with_reducible assumption))
           have q128 : x89_3 < (l1_4.length : Int) := of_decide_eq_true (by (with_reducible assumption))
           obtain ⟨ad128, e128, hx128_0⟩ := Kd.at_int (Kd.V_reads' HO_108004.out).2.2 x89_3 p128 q128
           cases e128
           replace p128 := eq_true p128
           replace q128 := eq_true q128
           have p129 : 0 ≤ (x89_3 : Int) := of_decide_eq_true (by (with_reducible assumption))
           have q129 : x89_3 < (l1_5.length : Int) := of_decide_eq_true (by (with_reducible assumption))
           obtain ⟨ad129, e129, hx129_0⟩ := Kd.at_int (Kd.V_reads' HO_108005.out).2.2 x89_3 p129 q129
           cases e129
           replace p129 := eq_true p129
           replace q129 := eq_true q129
           refine start_ (n := 29) (S := fun w' => w'.cell? ⟨gb107, 0, none⟩ = some (.int .i64 a1_0) ∧ w'.cell? ⟨gb107, 1, none⟩ = some (.slice A1_1 l1_1.length c1_1) ∧ w'.cell? ⟨gb107, 2, none⟩ = some (.slice (some ad126) l1_2.length c1_2) ∧ w'.cell? ⟨gb107, 3, none⟩ = some (.slice (some ad127) l1_3.length c1_3) ∧ w'.cell? ⟨gb107, 4, none⟩ = some (.slice (some ad128) l1_4.length c1_4) ∧ w'.cell? ⟨gb107, 5, none⟩ = some (.slice (some ad129) l1_5.length c1_5) ∧ w'.cell? (ad125.add (x89_3).toNat) = some (.int .i64 (rd l0 x89_3)) ∧ w'.cell? (ad126.add (x89_3).toNat) = some (.int .i64 (rd l1_2 x89_3)) ∧ w'.cell? (ad127.add (x89_3).toNat) = some (.int .i64 (rd l1_3 x89_3)) ∧ w'.cell? (ad128.add (x89_3).toNat) = some (.int .i64 (rd l1_4 x89_3)) ∧ w'.cell? (ad129.add (x89_3).toNat) = some (.int .i64 (rd l1_5 x89_3))) (ds := []) #[false, false, false, false, false, false, false, false, false, false, false, false, false, false, false, false, false, false, false, false, false, false, false, false, false, false, false, false, false] (by kernel_rfl) rfl rfl ⟨(blk_cell BK107.out 0).trans rfl, (blk_cell BK107.out 1).trans rfl, (blk_cell BK107.out 2).trans rfl, (blk_cell BK107.out 3).trans rfl, (blk_cell BK107.out 4).trans rfl, (blk_cell BK107.out 5).trans rfl, ((HB.out.cell (World.block_lt_of_cell? w _ hw125_0)).trans hw125_0), hx126_0, hx127_0, hx128_0, hx129_0⟩ (fun hHeld => ?_); refine with_tabW space_measured.tab24 space_measured.bits24 (fun HT_ HW_ => ?_)
           generalize wr.drew = w56 at HO_108002 HO_108003 HO_108004 HO_108005 BK107 HB hx125_0 hx126_0 hx127_0 hx128_0 hx129_0 hHeld ⊢
           refine pure_ (i := 0) (N := some 92) (v := ?_) (a' := ?_) #[true, false, false, false, false, false, false, false, false, false, false, false, false, false, false, false, false, false, false, false, false, false, false, false, false, false, false, false, false] rfl rfl (any_of HT_.out (by kernel_rfl)) (fun _ _ _ h => h) (Or.inl ⟨by rfl, ?_⟩) ?_ ?_
           rotate_left
           ·intro w'
            go_simp
            with_reducible rfl
           rotate_left
           ·simp only [Act.put, List.setIfInBounds_toArray, List.set_cons_zero, List.set_cons_succ, i64_w, i32_w]
            rfl
           refine pure_ (i := 1) (N := some 93) (v := ?_) (a' := ?_) #[true, true, false, false, false, false, false, false, false, false, false, false, false, false, false, false, false, false, false, false, false, false, false, false, false, false, false, false, false] rfl rfl (any_of HT_.out (by kernel_rfl)) (fun _ _ _ h => h) (Or.inl ⟨by rfl, ?_⟩) ?_ ?_
           rotate_left
           ·intro w'
            go_simp
            with_reducible rfl
           rotate_left
           ·simp only [Act.put, List.setIfInBounds_toArray, List.set_cons_zero, List.set_cons_succ, i64_w, i32_w]
            rfl
           refine pure_ (i := 2) (N := some 94) (v := ?_) (a' := ?_) #[true, true, true, false, false, false, false, false, false, false, false, false, false, false, false, false, false, false, false, false, false, false, false, false, false, false, false, false, false] rfl rfl (any_of HT_.out (by kernel_rfl)) (fun _ _ _ h => h) (Or.inl ⟨by rfl, ?_⟩) ?_ ?_
           rotate_left
           ·intro w'
            go_simp
            with_reducible rfl
           rotate_left
           ·simp only [Act.put, List.setIfInBounds_toArray, List.set_cons_zero, List.set_cons_succ, i64_w, i32_w]
            rfl
           refine pure_ (i := 3) (N := some 95) (v := ?_) (a' := ?_) #[true, true, true, true, false, false, false, false, false, false, false, false, false, false, false, false, false, false, false, false, false, false, false, false, false, false, false, false, false] rfl rfl (any_of HT_.out (by kernel_rfl)) (fun _ _ _ h => h) (Or.inl ⟨by rfl, ?_⟩) ?_ ?_
           rotate_left
           ·intro w'
            go_simp
            with_reducible rfl
           rotate_left
           ·simp only [Act.put, List.setIfInBounds_toArray, List.set_cons_zero, List.set_cons_succ, i64_w, i32_w]
            rfl
           refine pure_ (i := 4) (N := some 96) (v := ?_) (a' := ?_) #[true, true, true, true, true, false, false, false, false, false, false, false, false, false, false, false, false, false, false, false, false, false, false, false, false, false, false, false, false] rfl rfl (any_of HT_.out (by kernel_rfl)) (fun _ _ _ h => h) (Or.inl ⟨by rfl, ?_⟩) ?_ ?_
           rotate_left
           ·intro w'
            go_simp
            with_reducible rfl
           rotate_left
           ·simp only [Act.put, List.setIfInBounds_toArray, List.set_cons_zero, List.set_cons_succ, i64_w, i32_w]
            rfl
           refine pure_ (i := 5) (N := some 97) (v := ?_) (a' := ?_) #[true, true, true, true, true, true, false, false, false, false, false, false, false, false, false, false, false, false, false, false, false, false, false, false, false, false, false, false, false] rfl rfl (any_of HT_.out (by kernel_rfl)) (fun _ _ _ h => h) (Or.inl ⟨by rfl, ?_⟩) ?_ ?_
           rotate_left
           ·intro w'
            go_simp
            with_reducible rfl
           rotate_left
           ·simp only [Act.put, List.setIfInBounds_toArray, List.set_cons_zero, List.set_cons_succ, i64_w, i32_w]
            rfl
           refine pure_ (i := 7) (N := some 99) (v := ?_) (a' := ?_) #[true, true, true, true, true, true, false, true, false, false, false, false, false, false, false, false, false, false, false, false, false, false, false, false, false, false, false, false, false] rfl rfl (any_of HT_.out (by kernel_rfl)) (fun _ _ _ h => h) (Or.inl ⟨by rfl, ?_⟩) ?_ ?_
           rotate_left
           ·intro w'
            go_simp
            with_reducible rfl
           rotate_left
           ·simp only [Act.put, List.setIfInBounds_toArray, List.set_cons_zero, List.set_cons_succ, i64_w, i32_w]
            rfl
           refine pure_ (i := 9) (N := some 101) (v := ?_) (a' := ?_) #[true, true, true, true, true, true, false, true, false, true, false, false, false, false, false, false, false, false, false, false, false, false, false, false, false, false, false, false, false] rfl rfl (any_of HT_.out (by kernel_rfl)) (fun _ _ _ h => h) (Or.inl ⟨by rfl, ?_⟩) ?_ ?_
           rotate_left
           ·intro w'
            go_simp
            with_reducible rfl
           rotate_left
           ·simp only [Act.put, List.setIfInBounds_toArray, List.set_cons_zero, List.set_cons_succ, i64_w, i32_w]
            rfl
           refine pure_ (i := 12) (N := some 104) (v := ?_) (a' := ?_) #[true, true, true, true, true, true, false, true, false, true, false, false, true, false, false, false, false, false, false, false, false, false, false, false, false, false, false, false, false] rfl rfl (any_of HT_.out (by kernel_rfl)) (fun _ _ _ h => h) (Or.inl ⟨by rfl, ?_⟩) ?_ ?_
           rotate_left
           ·intro w'
            go_simp
            with_reducible rfl
           rotate_left
           ·simp only [Act.put, List.setIfInBounds_toArray, List.set_cons_zero, List.set_cons_succ, i64_w, i32_w]
            rfl
           refine pure_ (i := 14) (N := some 106) (v := ?_) (a' := ?_) #[true, true, true, true, true, true, false, true, false, true, false, false, true, false, true, false, false, false, false, false, false, false, false, false, false, false, false, false, false] rfl rfl (any_of HT_.out (by kernel_rfl)) (fun _ _ _ h => h) (Or.inl ⟨by rfl, ?_⟩) ?_ ?_
           rotate_left
           ·intro w'
            go_simp
            with_reducible rfl
           rotate_left
           ·simp only [Act.put, List.setIfInBounds_toArray, List.set_cons_zero, List.set_cons_succ, i64_w, i32_w]
            rfl
           refine pure_ (i := 17) (N := some 109) (v := ?_) (a' := ?_) #[true, true, true, true, true, true, false, true, false, true, false, false, true, false, true, false, false, true, false, false, false, false, false, false, false, false, false, false, false] rfl rfl (any_of HT_.out (by kernel_rfl)) (fun _ _ _ h => h) (Or.inl ⟨by rfl, ?_⟩) ?_ ?_
           rotate_left
           ·intro w'
            go_simp
            with_reducible rfl
           rotate_left
           ·simp only [Act.put, List.setIfInBounds_toArray, List.set_cons_zero, List.set_cons_succ, i64_w, i32_w]
            rfl
           refine pure_ (i := 19) (N := some 111) (v := ?_) (a' := ?_) #[true, true, true, true, true, true, false, true, false, true, false, false, true, false, true, false, false, true, false, true, false, false, false, false, false, false, false, false, false] rfl rfl (any_of HT_.out (by kernel_rfl)) (fun _ _ _ h => h) (Or.inl ⟨by rfl, ?_⟩) ?_ ?_
           rotate_left
           ·intro w'
            go_simp
            with_reducible rfl
           rotate_left
           ·simp only [Act.put, List.setIfInBounds_toArray, List.set_cons_zero, List.set_cons_succ, i64_w, i32_w]
            rfl
           refine pure_ (i := 22) (N := some 114) (v := ?_) (a' := ?_) #[true, true, true, true, true, true, false, true, false, true, false, false, true, false, true, false, false, true, false, true, false, false, true, false, false, false, false, false, false] rfl rfl (any_of HT_.out (by kernel_rfl)) (fun _ _ _ h => h) (Or.inl ⟨by rfl, ?_⟩) ?_ ?_
           rotate_left
           ·intro w'
            go_simp
            with_reducible rfl
           rotate_left
           ·simp only [Act.put, List.setIfInBounds_toArray, List.set_cons_zero, List.set_cons_succ, i64_w, i32_w]
            rfl
           refine pure_ (i := 24) (N := some 116) (v := ?_) (a' := ?_) #[true, true, true, true, true, true, false, true, false, true, false, false, true, false, true, false, false, true, false, true, false, false, true, false, true, false, false, false, false] rfl rfl (any_of HT_.out (by kernel_rfl)) (fun _ _ _ h => h) (Or.inl ⟨by rfl, ?_⟩) ?_ ?_
           rotate_left
           ·intro w'
            go_simp
            with_reducible rfl
           rotate_left
           ·simp only [Act.put, List.setIfInBounds_toArray, List.set_cons_zero, List.set_cons_succ, i64_w, i32_w]
            rfl
           refine take_ (i := 6) (N := some 98) (v := ?_) (a' := ?_) #[true, true, true, true, true, true, true, true, false, true, false, false, true, false, true, false, false, true, false, true, false, false, true, false, true, false, false, false, false] rfl rfl (take_ofW HT_.out HW_.out (by kernel_rfl)) (fun _ _ _ h => h) (Or.inl ⟨by rfl, ?_⟩) hHeld ?_ ?_
           rotate_left
           ·rintro w' ⟨s0, s1, s2, s3, s4, s5, s6, s7, s8, s9, s10⟩
            go_simp
            with_reducible rfl
           rotate_left
           ·simp only [Act.put, List.setIfInBounds_toArray, List.set_cons_zero, List.set_cons_succ, i64_w, i32_w]
            rfl
           refine take_ (i := 8) (N := some 100) (v := ?_) (a' := ?_) #[true, true, true, true, true, true, true, true, true, true, false, false, true, false, true, false, false, true, false, true, false, false, true, false, true, false, false, false, false] rfl rfl (take_ofW HT_.out HW_.out (by kernel_rfl)) (fun _ _ _ h => h) (Or.inl ⟨by rfl, ?_⟩) hHeld ?_ ?_
           rotate_left
           ·rintro w' ⟨s0, s1, s2, s3, s4, s5, s6, s7, s8, s9, s10⟩
            go_simp
            with_reducible rfl
           rotate_left
           ·simp only [Act.put, List.setIfInBounds_toArray, List.set_cons_zero, List.set_cons_succ, i64_w, i32_w]
            rfl
           refine pure_ (i := 10) (N := some 102) (v := ?_) (a' := ?_) #[true, true, true, true, true, true, true, true, true, true, true, false, true, false, true, false, false, true, false, true, false, false, true, false, true, false, false, false, false] rfl rfl (any_of HT_.out (by kernel_rfl)) (fun _ _ _ h => h) (Or.inl ⟨by rfl, ?_⟩) ?_ ?_
           rotate_left
           ·intro w'
            go_simp
            with_reducible rfl
           rotate_left
           ·simp only [Act.put, List.setIfInBounds_toArray, List.set_cons_zero, List.set_cons_succ, i64_w, i32_w]
            rfl
           refine take_ (i := 11) (N := some 103) (v := ?_) (a' := ?_) #[true, true, true, true, true, true, true, true, true, true, true, true, true, false, true, false, false, true, false, true, false, false, true, false, true, false, false, false, false] rfl rfl (take_ofW HT_.out HW_.out (by kernel_rfl)) (fun _ _ _ h => h) (Or.inl ⟨by rfl, ?_⟩) hHeld ?_ ?_
           rotate_left
           ·rintro w' ⟨s0, s1, s2, s3, s4, s5, s6, s7, s8, s9, s10⟩
            go_simp
            with_reducible rfl
           rotate_left
           ·simp only [Act.put, List.setIfInBounds_toArray, List.set_cons_zero, List.set_cons_succ, i64_w, i32_w]
            rfl
           refine take_ (i := 13) (N := some 105) (v := ?_) (a' := ?_) #[true, true, true, true, true, true, true, true, true, true, true, true, true, true, true, false, false, true, false, true, false, false, true, false, true, false, false, false, false] rfl rfl (take_ofW HT_.out HW_.out (by kernel_rfl)) (fun _ _ _ h => h) (Or.inl ⟨by rfl, ?_⟩) hHeld ?_ ?_
           rotate_left
           ·rintro w' ⟨s0, s1, s2, s3, s4, s5, s6, s7, s8, s9, s10⟩
            go_simp
            with_reducible rfl
           rotate_left
           ·simp only [Act.put, List.setIfInBounds_toArray, List.set_cons_zero, List.set_cons_succ, i64_w, i32_w]
            rfl
           refine pure_ (i := 15) (N := some 107) (v := ?_) (a' := ?_) #[true, true, true, true, true, true, true, true, true, true, true, true, true, true, true, true, false, true, false, true, false, false, true, false, true, false, false, false, false] rfl rfl (any_of HT_.out (by kernel_rfl)) (fun _ _ _ h => h) (Or.inl ⟨by rfl, ?_⟩) ?_ ?_
           rotate_left
           ·intro w'
            go_simp
            with_reducible rfl
           rotate_left
           ·simp only [Act.put, List.setIfInBounds_toArray, List.set_cons_zero, List.set_cons_succ, i64_w, i32_w]
            rfl
           refine take_ (i := 16) (N := some 108) (v := ?_) (a' := ?_) #[true, true, true, true, true, true, true, true, true, true, true, true, true, true, true, true, true, true, false, true, false, false, true, false, true, false, false, false, false] rfl rfl (take_ofW HT_.out HW_.out (by kernel_rfl)) (fun _ _ _ h => h) (Or.inl ⟨by rfl, ?_⟩) hHeld ?_ ?_
           rotate_left
           ·rintro w' ⟨s0, s1, s2, s3, s4, s5, s6, s7, s8, s9, s10⟩
            go_simp
            with_reducible rfl
           rotate_left
           ·simp only [Act.put, List.setIfInBounds_toArray, List.set_cons_zero, List.set_cons_succ, i64_w, i32_w]
            rfl
           refine take_ (i := 18) (N := some 110) (v := ?_) (a' := ?_) #[true, true, true, true, true, true, true, true, true, true, true, true, true, true, true, true, true, true, true, true, false, false, true, false, true, false, false, false, false] rfl rfl (take_ofW HT_.out HW_.out (by kernel_rfl)) (fun _ _ _ h => h) (Or.inl ⟨by rfl, ?_⟩) hHeld ?_ ?_
           rotate_left
           ·rintro w' ⟨s0, s1, s2, s3, s4, s5, s6, s7, s8, s9, s10⟩
            go_simp
            with_reducible rfl
           rotate_left
           ·simp only [Act.put, List.setIfInBounds_toArray, List.set_cons_zero, List.set_cons_succ, i64_w, i32_w]
            rfl
           refine pure_ (i := 20) (N := some 112) (v := ?_) (a' := ?_) #[true, true, true, true, true, true, true, true, true, true, true, true, true, true, true, true, true, true, true, true, true, false, true, false, true, false, false, false, false] rfl rfl (any_of HT_.out (by kernel_rfl)) (fun _ _ _ h => h) (Or.inl ⟨by rfl, ?_⟩) ?_ ?_
           rotate_left
           ·intro w'
            go_simp
            with_reducible rfl
           rotate_left
           ·simp only [Act.put, List.setIfInBounds_toArray, List.set_cons_zero, List.set_cons_succ, i64_w, i32_w]
            rfl
           refine take_ (i := 21) (N := some 113) (v := ?_) (a' := ?_) #[true, true, true, true, true, true, true, true, true, true, true, true, true, true, true, true, true, true, true, true, true, true, true, false, true, false, false, false, false] rfl rfl (take_ofW HT_.out HW_.out (by kernel_rfl)) (fun _ _ _ h => h) (Or.inl ⟨by rfl, ?_⟩) hHeld ?_ ?_
           rotate_left
           ·rintro w' ⟨s0, s1, s2, s3, s4, s5, s6, s7, s8, s9, s10⟩
            go_simp
            with_reducible rfl
           rotate_left
           ·simp only [Act.put, List.setIfInBounds_toArray, List.set_cons_zero, List.set_cons_succ, i64_w, i32_w]
            rfl
           refine take_ (i := 23) (N := some 115) (v := ?_) (a' := ?_) #[true, true, true, true, true, true, true, true, true, true, true, true, true, true, true, true, true, true, true, true, true, true, true, true, true, false, false, false, false] rfl rfl (take_ofW HT_.out HW_.out (by kernel_rfl)) (fun _ _ _ h => h) (Or.inl ⟨by rfl, ?_⟩) hHeld ?_ ?_
           rotate_left
           ·rintro w' ⟨s0, s1, s2, s3, s4, s5, s6, s7, s8, s9, s10⟩
            go_simp
            with_reducible rfl
           rotate_left
           ·simp only [Act.put, List.setIfInBounds_toArray, List.set_cons_zero, List.set_cons_succ, i64_w, i32_w]
            rfl
           refine pure_ (i := 25) (N := some 117) (v := ?_) (a' := ?_) #[true, true, true, true, true, true, true, true, true, true, true, true, true, true, true, true, true, true, true, true, true, true, true, true, true, true, false, false, false] rfl rfl (any_of HT_.out (by kernel_rfl)) (fun _ _ _ h => h) (Or.inl ⟨by rfl, ?_⟩) ?_ ?_
           rotate_left
           ·intro w'
            go_simp
            with_reducible rfl
           rotate_left
           ·simp only [Act.put, List.setIfInBounds_toArray, List.set_cons_zero, List.set_cons_succ, i64_w, i32_w]
            rfl
           refine take_ (i := 26) (N := some 118) (v := ?_) (a' := ?_) #[true, true, true, true, true, true, true, true, true, true, true, true, true, true, true, true, true, true, true, true, true, true, true, true, true, true, true, false, false] rfl rfl (take_ofW HT_.out HW_.out (by kernel_rfl)) (fun _ _ _ h => h) (Or.inl ⟨by rfl, ?_⟩) hHeld ?_ ?_
           rotate_left
           ·rintro w' ⟨s0, s1, s2, s3, s4, s5, s6, s7, s8, s9, s10⟩
            go_simp
            with_reducible rfl
           rotate_left
           ·simp only [Act.put, List.setIfInBounds_toArray, List.set_cons_zero, List.set_cons_succ, i64_w, i32_w]
            rfl
           refine one_ (i := 27) (N := some 119) #[true, true, true, true, true, true, true, true, true, true, true, true, true, true, true, true, true, true, true, true, true, true, true, true, true, true, true, true, false] rfl rfl (one_of HT_.out (by kernel_rfl)) (by decide) (fun K hK => ?_)
           refine goes_ Try.func41 (by kernel_rfl) rfl #[.int .i64 (rd l0 x89_3), .int .i64 (rd l1_2 x89_3), .int .i64 (rd l1_3 x89_3), .int .i64 (rd l1_4 x89_3), .int .i64 (rd l1_5 x89_3)] (by rfl) rfl rfl (by (simp only [List.map_toArray, List.map_cons, List.map_nil]); rfl) ?_
           with_reducible refine (space_beyond.calls (rd l0 x89_3) (rd l1_2 x89_3) (rd l1_3 x89_3) (rd l1_4 x89_3) (rd l1_5 x89_3) false _ A53.out).mono ?_
           rintro e w' ⟨rfl, ⟨nd, rfl⟩⟩
           refine ⟨_, rfl, ?_⟩
           refine hK.out _ _ ⟨(blk_cell BK107.out 0).trans rfl, (blk_cell BK107.out 1).trans rfl, (blk_cell BK107.out 2).trans rfl, (blk_cell BK107.out 3).trans rfl, (blk_cell BK107.out 4).trans rfl, (blk_cell BK107.out 5).trans rfl, ((HB.out.cell (World.block_lt_of_cell? w _ hw125_0)).trans hw125_0), hHeld.2.2.2.2.2.2.2.1, hHeld.2.2.2.2.2.2.2.2.1, hHeld.2.2.2.2.2.2.2.2.2.1, hHeld.2.2.2.2.2.2.2.2.2.2⟩ (fun hHeld => ?_)
           clear hK K
           refine norm_ (a' := ?_) ?_ ?_
           rotate_left
           ·show Act.put _ (some 119) _ = _
            simp only [Act.put, List.setIfInBounds_toArray, List.set_cons_zero, List.set_cons_succ, i64_w, i32_w]
            rfl
           refine pure_ (i := 28) (N := some 120) (v := ?_) (a' := ?_) #[true, true, true, true, true, true, true, true, true, true, true, true, true, true, true, true, true, true, true, true, true, true, true, true, true, true, true, true, true] rfl rfl (any_of HT_.out (by kernel_rfl)) (fun _ _ _ h => h) (Or.inl ⟨by rfl, ?_⟩) ?_ ?_
           rotate_left
           ·intro w'
            go_simp
            with_reducible rfl
           rotate_left
           ·simp only [Act.put, List.setIfInBounds_toArray, List.set_cons_zero, List.set_cons_succ, i64_w, i32_w]
            rfl
           refine done_ (done_of HT_.out (by kernel_rfl)) ?_
           go_wp2
           go_roundg k3
           case measure => have := HJ10.out; have := HJ28.out; have := HK3.out; omega
           case rel => exact ⟨(wrap64 (x89_3 + 1)), (by rfl), H', ⟨by have := HJ10.out; have := HJ28.out; have := HK3.out; omega⟩, ⟨by (with_reducible repeat (apply Kd.V_drewN)); exact HO_108002.out⟩, ⟨by (with_reducible repeat (apply Kd.V_drewN)); exact HO_108003.out⟩, ⟨by (with_reducible repeat (apply Kd.V_drewN)); exact HO_108004.out⟩, ⟨by (with_reducible repeat (apply Kd.V_drewN)); exact HO_108005.out⟩, ⟨by (with_reducible repeat (refine blk_drewN ?_ _)); exact BK107.out⟩, ⟨by repeat ((with_reducible first | exact HB.out | apply pw_below_drewN))⟩⟩
          rw [if_neg c46] at H
          have c46b0 : decide (0 < t124) = false := decide_eq_false c46
          clear c46
          have H' := Aside0.mk H
          clear H
          go_wp2
          have n0_ := Aside0.mk (Kd.V_drew HO_108002.out)
          have n1_ := Aside0.mk (Kd.V_drew HO_108003.out)
          have n2_ := Aside0.mk (Kd.V_drew HO_108004.out)
          have n3_ := Aside0.mk (Kd.V_drew HO_108005.out)
          have n4_ := Aside0.mk (blk_drew BK107.out)
          have n5_ := Aside0.mk (below_drew1 HB.out)
          clear HO_108002 HO_108003 HO_108004 HO_108005 BK107 HB
          have HO_108002 := n0_
          have HO_108003 := n1_
          have HO_108004 := n2_
          have HO_108005 := n3_
          have BK107 := n4_
          have HB := n5_
          clear n0_ n1_ n2_ n3_ n4_ n5_
          refine start_ (n := 29) (S := fun w' => True) (ds := []) #[false, false, false, false, false, false, false, false, false, false, false, false, false, false, false, false, false, false, false, false, false, false, false, false, false, false, false, false, false] (by kernel_rfl) rfl rfl trivial (fun hHeld => ?_); refine with_tabW space_measured.tab24 space_measured.bits24 (fun HT_ HW_ => ?_)
          generalize wr.drew = w57 at HO_108002 HO_108003 HO_108004 HO_108005 BK107 HB hHeld ⊢
          refine pure_ (i := 0) (N := some 92) (v := ?_) (a' := ?_) #[true, false, false, false, false, false, false, false, false, false, false, false, false, false, false, false, false, false, false, false, false, false, false, false, false, false, false, false, false] rfl rfl (any_of HT_.out (by kernel_rfl)) (fun _ _ _ h => h) (Or.inl ⟨by rfl, ?_⟩) ?_ ?_
          rotate_left
          ·intro w'
           go_simp
           with_reducible rfl
          rotate_left
          ·simp only [Act.put, List.setIfInBounds_toArray, List.set_cons_zero, List.set_cons_succ, i64_w, i32_w]
           rfl
          refine pure_ (i := 1) (N := some 93) (v := ?_) (a' := ?_) #[true, true, false, false, false, false, false, false, false, false, false, false, false, false, false, false, false, false, false, false, false, false, false, false, false, false, false, false, false] rfl rfl (any_of HT_.out (by kernel_rfl)) (fun _ _ _ h => h) (Or.inl ⟨by rfl, ?_⟩) ?_ ?_
          rotate_left
          ·intro w'
           go_simp
           with_reducible rfl
          rotate_left
          ·simp only [Act.put, List.setIfInBounds_toArray, List.set_cons_zero, List.set_cons_succ, i64_w, i32_w]
           rfl
          refine pure_ (i := 2) (N := some 94) (v := ?_) (a' := ?_) #[true, true, true, false, false, false, false, false, false, false, false, false, false, false, false, false, false, false, false, false, false, false, false, false, false, false, false, false, false] rfl rfl (any_of HT_.out (by kernel_rfl)) (fun _ _ _ h => h) (Or.inl ⟨by rfl, ?_⟩) ?_ ?_
          rotate_left
          ·intro w'
           go_simp
           with_reducible rfl
          rotate_left
          ·simp only [Act.put, List.setIfInBounds_toArray, List.set_cons_zero, List.set_cons_succ, i64_w, i32_w]
           rfl
          refine pure_ (i := 3) (N := some 95) (v := undef) (a' := ?_) #[true, true, true, true, false, false, false, false, false, false, false, false, false, false, false, false, false, false, false, false, false, false, false, false, false, false, false, false, false] rfl rfl (any_of HT_.out (by kernel_rfl)) (fun _ _ _ h => h) (Or.inr ⟨by rfl, rfl⟩) ?_ ?_
          rotate_left
          ·simp only [Act.put, List.setIfInBounds_toArray, List.set_cons_zero, List.set_cons_succ, i64_w, i32_w]
           rfl
          refine pure_ (i := 4) (N := some 96) (v := undef) (a' := ?_) #[true, true, true, true, true, false, false, false, false, false, false, false, false, false, false, false, false, false, false, false, false, false, false, false, false, false, false, false, false] rfl rfl (any_of HT_.out (by kernel_rfl)) (fun _ _ _ h => h) (Or.inr ⟨by rfl, rfl⟩) ?_ ?_
          rotate_left
          ·simp only [Act.put, List.setIfInBounds_toArray, List.set_cons_zero, List.set_cons_succ, i64_w, i32_w]
           rfl
          refine pure_ (i := 5) (N := some 97) (v := undef) (a' := ?_) #[true, true, true, true, true, true, false, false, false, false, false, false, false, false, false, false, false, false, false, false, false, false, false, false, false, false, false, false, false] rfl rfl (any_of HT_.out (by kernel_rfl)) (fun _ _ _ h => h) (Or.inr ⟨by rfl, rfl⟩) ?_ ?_
          rotate_left
          ·simp only [Act.put, List.setIfInBounds_toArray, List.set_cons_zero, List.set_cons_succ, i64_w, i32_w]
           rfl
          refine pure_ (i := 6) (N := some 98) (v := undef) (a' := ?_) #[true, true, true, true, true, true, true, false, false, false, false, false, false, false, false, false, false, false, false, false, false, false, false, false, false, false, false, false, false] rfl rfl (any_of HT_.out (by kernel_rfl)) (fun _ _ _ h => h) (Or.inr ⟨by rfl, rfl⟩) ?_ ?_
          rotate_left
          ·simp only [Act.put, List.setIfInBounds_toArray, List.set_cons_zero, List.set_cons_succ, i64_w, i32_w]
           rfl
          refine pure_ (i := 7) (N := some 99) (v := undef) (a' := ?_) #[true, true, true, true, true, true, true, true, false, false, false, false, false, false, false, false, false, false, false, false, false, false, false, false, false, false, false, false, false] rfl rfl (any_of HT_.out (by kernel_rfl)) (fun _ _ _ h => h) (Or.inr ⟨by rfl, rfl⟩) ?_ ?_
          rotate_left
          ·simp only [Act.put, List.setIfInBounds_toArray, List.set_cons_zero, List.set_cons_succ, i64_w, i32_w]
           rfl
          refine pure_ (i := 8) (N := some 100) (v := undef) (a' := ?_) #[true, true, true, true, true, true, true, true, true, false, false, false, false, false, false, false, false, false, false, false, false, false, false, false, false, false, false, false, false] rfl rfl (any_of HT_.out (by kernel_rfl)) (fun _ _ _ h => h) (Or.inr ⟨by rfl, rfl⟩) ?_ ?_
          rotate_left
          ·simp only [Act.put, List.setIfInBounds_toArray, List.set_cons_zero, List.set_cons_succ, i64_w, i32_w]
           rfl
          refine pure_ (i := 9) (N := some 101) (v := undef) (a' := ?_) #[true, true, true, true, true, true, true, true, true, true, false, false, false, false, false, false, false, false, false, false, false, false, false, false, false, false, false, false, false] rfl rfl (any_of HT_.out (by kernel_rfl)) (fun _ _ _ h => h) (Or.inr ⟨by rfl, rfl⟩) ?_ ?_
          rotate_left
          ·simp only [Act.put, List.setIfInBounds_toArray, List.set_cons_zero, List.set_cons_succ, i64_w, i32_w]
           rfl
          refine pure_ (i := 10) (N := some 102) (v := undef) (a' := ?_) #[true, true, true, true, true, true, true, true, true, true, true, false, false, false, false, false, false, false, false, false, false, false, false, false, false, false, false, false, false] rfl rfl (any_of HT_.out (by kernel_rfl)) (fun _ _ _ h => h) (Or.inr ⟨by rfl, rfl⟩) ?_ ?_
          rotate_left
          ·simp only [Act.put, List.setIfInBounds_toArray, List.set_cons_zero, List.set_cons_succ, i64_w, i32_w]
           rfl
          refine pure_ (i := 11) (N := some 103) (v := undef) (a' := ?_) #[true, true, true, true, true, true, true, true, true, true, true, true, false, false, false, false, false, false, false, false, false, false, false, false, false, false, false, false, false] rfl rfl (any_of HT_.out (by kernel_rfl)) (fun _ _ _ h => h) (Or.inr ⟨by rfl, rfl⟩) ?_ ?_
          rotate_left
          ·simp only [Act.put, List.setIfInBounds_toArray, List.set_cons_zero, List.set_cons_succ, i64_w, i32_w]
           rfl
          refine pure_ (i := 12) (N := some 104) (v := undef) (a' := ?_) #[true, true, true, true, true, true, true, true, true, true, true, true, true, false, false, false, false, false, false, false, false, false, false, false, false, false, false, false, false] rfl rfl (any_of HT_.out (by kernel_rfl)) (fun _ _ _ h => h) (Or.inr ⟨by rfl, rfl⟩) ?_ ?_
          rotate_left
          ·simp only [Act.put, List.setIfInBounds_toArray, List.set_cons_zero, List.set_cons_succ, i64_w, i32_w]
           rfl
          refine pure_ (i := 13) (N := some 105) (v := undef) (a' := ?_) #[true, true, true, true, true, true, true, true, true, true, true, true, true, true, false, false, false, false, false, false, false, false, false, false, false, false, false, false, false] rfl rfl (any_of HT_.out (by kernel_rfl)) (fun _ _ _ h => h) (Or.inr ⟨by rfl, rfl⟩) ?_ ?_
          rotate_left
          ·simp only [Act.put, List.setIfInBounds_toArray, List.set_cons_zero, List.set_cons_succ, i64_w, i32_w]
           rfl
          refine pure_ (i := 14) (N := some 106) (v := undef) (a' := ?_) #[true, true, true, true, true, true, true, true, true, true, true, true, true, true, true, false, false, false, false, false, false, false, false, false, false, false, false, false, false] rfl rfl (any_of HT_.out (by kernel_rfl)) (fun _ _ _ h => h) (Or.inr ⟨by rfl, rfl⟩) ?_ ?_
          rotate_left
          ·simp only [Act.put, List.setIfInBounds_toArray, List.set_cons_zero, List.set_cons_succ, i64_w, i32_w]
           rfl
          refine pure_ (i := 15) (N := some 107) (v := undef) (a' := ?_) #[true, true, true, true, true, true, true, true, true, true, true, true, true, true, true, true, false, false, false, false, false, false, false, false, false, false, false, false, false] rfl rfl (any_of HT_.out (by kernel_rfl)) (fun _ _ _ h => h) (Or.inr ⟨by rfl, rfl⟩) ?_ ?_
          rotate_left
          ·simp only [Act.put, List.setIfInBounds_toArray, List.set_cons_zero, List.set_cons_succ, i64_w, i32_w]
           rfl
          refine pure_ (i := 16) (N := some 108) (v := undef) (a' := ?_) #[true, true, true, true, true, true, true, true, true, true, true, true, true, true, true, true, true, false, false, false, false, false, false, false, false, false, false, false, false] rfl rfl (any_of HT_.out (by kernel_rfl)) (fun _ _ _ h => h) (Or.inr ⟨by rfl, rfl⟩) ?_ ?_
          rotate_left
          ·simp only [Act.put, List.setIfInBounds_toArray, List.set_cons_zero, List.set_cons_succ, i64_w, i32_w]
           rfl
          refine pure_ (i := 17) (N := some 109) (v := undef) (a' := ?_) #[true, true, true, true, true, true, true, true, true, true, true, true, true, true, true, true, true, true, false, false, false, false, false, false, false, false, false, false, false] rfl rfl (any_of HT_.out (by kernel_rfl)) (fun _ _ _ h => h) (Or.inr ⟨by rfl, rfl⟩) ?_ ?_
          rotate_left
          ·simp only [Act.put, List.setIfInBounds_toArray, List.set_cons_zero, List.set_cons_succ, i64_w, i32_w]
           rfl
          refine pure_ (i := 18) (N := some 110) (v := undef) (a' := ?_) #[true, true, true, true, true, true, true, true, true, true, true, true, true, true, true, true, true, true, true, false, false, false, false, false, false, false, false, false, false] rfl rfl (any_of HT_.out (by kernel_rfl)) (fun _ _ _ h => h) (Or.inr ⟨by rfl, rfl⟩) ?_ ?_
          rotate_left
          ·simp only [Act.put, List.setIfInBounds_toArray, List.set_cons_zero, List.set_cons_succ, i64_w, i32_w]
           rfl
          refine pure_ (i := 19) (N := some 111) (v := undef) (a' := ?_) #[true, true, true, true, true, true, true, true, true, true, true, true, true, true, true, true, true, true, true, true, false, false, false, false, false, false, false, false, false] rfl rfl (any_of HT_.out (by kernel_rfl)) (fun _ _ _ h => h) (Or.inr ⟨by rfl, rfl⟩) ?_ ?_
          rotate_left
          ·simp only [Act.put, List.setIfInBounds_toArray, List.set_cons_zero, List.set_cons_succ, i64_w, i32_w]
           rfl
          refine pure_ (i := 20) (N := some 112) (v := undef) (a' := ?_) #[true, true, true, true, true, true, true, true, true, true, true, true, true, true, true, true, true, true, true, true, true, false, false, false, false, false, false, false, false] rfl rfl (any_of HT_.out (by kernel_rfl)) (fun _ _ _ h => h) (Or.inr ⟨by rfl, rfl⟩) ?_ ?_
          rotate_left
          ·simp only [Act.put, List.setIfInBounds_toArray, List.set_cons_zero, List.set_cons_succ, i64_w, i32_w]
           rfl
          refine pure_ (i := 21) (N := some 113) (v := undef) (a' := ?_) #[true, true, true, true, true, true, true, true, true, true, true, true, true, true, true, true, true, true, true, true, true, true, false, false, false, false, false, false, false] rfl rfl (any_of HT_.out (by kernel_rfl)) (fun _ _ _ h => h) (Or.inr ⟨by rfl, rfl⟩) ?_ ?_
          rotate_left
          ·simp only [Act.put, List.setIfInBounds_toArray, List.set_cons_zero, List.set_cons_succ, i64_w, i32_w]
           rfl
          refine pure_ (i := 22) (N := some 114) (v := undef) (a' := ?_) #[true, true, true, true, true, true, true, true, true, true, true, true, true, true, true, true, true, true, true, true, true, true, true, false, false, false, false, false, false] rfl rfl (any_of HT_.out (by kernel_rfl)) (fun _ _ _ h => h) (Or.inr ⟨by rfl, rfl⟩) ?_ ?_
          rotate_left
          ·simp only [Act.put, List.setIfInBounds_toArray, List.set_cons_zero, List.set_cons_succ, i64_w, i32_w]
           rfl
          refine pure_ (i := 23) (N := some 115) (v := undef) (a' := ?_) #[true, true, true, true, true, true, true, true, true, true, true, true, true, true, true, true, true, true, true, true, true, true, true, true, false, false, false, false, false] rfl rfl (any_of HT_.out (by kernel_rfl)) (fun _ _ _ h => h) (Or.inr ⟨by rfl, rfl⟩) ?_ ?_
          rotate_left
          ·simp only [Act.put, List.setIfInBounds_toArray, List.set_cons_zero, List.set_cons_succ, i64_w, i32_w]
           rfl
          refine pure_ (i := 24) (N := some 116) (v := undef) (a' := ?_) #[true, true, true, true, true, true, true, true, true, true, true, true, true, true, true, true, true, true, true, true, true, true, true, true, true, false, false, false, false] rfl rfl (any_of HT_.out (by kernel_rfl)) (fun _ _ _ h => h) (Or.inr ⟨by rfl, rfl⟩) ?_ ?_
          rotate_left
          ·simp only [Act.put, List.setIfInBounds_toArray, List.set_cons_zero, List.set_cons_succ, i64_w, i32_w]
           rfl
          refine pure_ (i := 25) (N := some 117) (v := undef) (a' := ?_) #[true, true, true, true, true, true, true, true, true, true, true, true, true, true, true, true, true, true, true, true, true, true, true, true, true, true, false, false, false] rfl rfl (any_of HT_.out (by kernel_rfl)) (fun _ _ _ h => h) (Or.inr ⟨by rfl, rfl⟩) ?_ ?_
          rotate_left
          ·simp only [Act.put, List.setIfInBounds_toArray, List.set_cons_zero, List.set_cons_succ, i64_w, i32_w]
           rfl
          refine pure_ (i := 26) (N := some 118) (v := undef) (a' := ?_) #[true, true, true, true, true, true, true, true, true, true, true, true, true, true, true, true, true, true, true, true, true, true, true, true, true, true, true, false, false] rfl rfl (any_of HT_.out (by kernel_rfl)) (fun _ _ _ h => h) (Or.inr ⟨by rfl, rfl⟩) ?_ ?_
          rotate_left
          ·simp only [Act.put, List.setIfInBounds_toArray, List.set_cons_zero, List.set_cons_succ, i64_w, i32_w]
           rfl
          refine pure_ (i := 27) (N := some 119) (v := undef) (a' := ?_) #[true, true, true, true, true, true, true, true, true, true, true, true, true, true, true, true, true, true, true, true, true, true, true, true, true, true, true, true, false] rfl rfl (any_of HT_.out (by kernel_rfl)) (fun _ _ _ h => h) (Or.inr ⟨by rfl, rfl⟩) ?_ ?_
          rotate_left
          ·simp only [Act.put, List.setIfInBounds_toArray, List.set_cons_zero, List.set_cons_succ, i64_w, i32_w]
           rfl
          refine pure_ (i := 28) (N := some 120) (v := ?_) (a' := ?_) #[true, true, true, true, true, true, true, true, true, true, true, true, true, true, true, true, true, true, true, true, true, true, true, true, true, true, true, true, true] rfl rfl (any_of HT_.out (by kernel_rfl)) (fun _ _ _ h => h) (Or.inl ⟨by rfl, ?_⟩) ?_ ?_
          rotate_left
          ·intro w'
           go_simp
           with_reducible rfl
          rotate_left
          ·simp only [Act.put, List.setIfInBounds_toArray, List.set_cons_zero, List.set_cons_succ, i64_w, i32_w]
           rfl
          refine done_ (done_of HT_.out (by kernel_rfl)) ?_
          go_wp2
          go_roundg k3
          case measure => have := HJ10.out; have := HJ28.out; have := HK3.out; omega
          case rel => exact ⟨(wrap64 (x89_3 + 1)), (by rfl), H', ⟨by have := HJ10.out; have := HJ28.out; have := HK3.out; omega⟩, ⟨by (with_reducible repeat (first | apply Kd.V_alloc | apply Kd.V_drewN | apply Kd.V_drew)); exact HO_108002.out⟩, ⟨by (with_reducible repeat (first | apply Kd.V_alloc | apply Kd.V_drewN | apply Kd.V_drew)); exact HO_108003.out⟩, ⟨by (with_reducible repeat (first | apply Kd.V_alloc | apply Kd.V_drewN | apply Kd.V_drew)); exact HO_108004.out⟩, ⟨by (with_reducible repeat (first | apply Kd.V_alloc | apply Kd.V_drewN | apply Kd.V_drew)); exact HO_108005.out⟩, ⟨by (with_reducible repeat (first | refine blk_drewN ?_ _ | refine blk_drew ?_ | refine blk_alloc ?_ _)); exact BK107.out⟩, ⟨HB.out⟩⟩
         rw [if_neg c45] at H
         have c45b0 : decide (x89_3 < (l0.length : Int)) = false := decide_eq_false c45
         clear c45
         by_cases c58 : t124 > 4096
         ·rw [if_pos c58] at H
          have c58b0 : decide (4096 < t124) = true := decide_eq_true c58
          clear c58
          simp only [Option.some.injEq, Prod.mk.injEq] at H
          obtain ⟨rfl, rfl⟩ := H
          go_wp2
          go_ret2
          exact ⟨by rfl, HB.out⟩
         rw [if_neg c58] at H
         have c58b0 : decide (4096 < t124) = false := decide_eq_false c58
         clear c58
         simp only [Option.some.injEq, Prod.mk.injEq] at H
         obtain ⟨rfl, rfl⟩ := H
         go_wp2
         go_ret2
         exact ⟨by rfl, HB.out⟩
      replace c37 := Bool.eq_false_iff.mpr c37
      subst c37
      have H1 : (some (0, 2)) = some (r1, r2) := by rw [if_neg (show ¬ (false = true) by decide)] at H; exact H
      clear H
      have H := H1
      clear H1
      simp only [Option.some.injEq, Prod.mk.injEq] at H
      obtain ⟨rfl, rfl⟩ := H
      go_wp2
      go_ret2
      exact ⟨by rfl, HB.out⟩
 rw [if_neg c4] at H
 have c4b0 : (t109 == 0) = false := beq_eq_false_iff_ne.mpr c4
 have c4b1 : (t109 != 0) = true := bne_iff_ne.mpr c4
 simp only [Option.some.injEq, Prod.mk.injEq] at H
 obtain ⟨rfl, rfl⟩ := H
 go_enter Try.func30, Try.ntmps30
 go_wp2_with (first | ((with_reducible refine gate_dst (N := 3) rfl ?_); ((refine gate_guard (by rfl) ?_; dsimp only)); refine box_event ?hg (N := 3) ?hd (cs := #[.int .i64 a1_0, .slice A1_1 l1_1.length c1_1, .slice A1_2 l1_2.length c1_2, .slice A1_3 l1_3.length c1_3, .slice A1_4 l1_4.length c1_4, .slice A1_5 l1_5.length c1_5]) (t := 33) ?hr ?_; (case hd => rfl); (case hg => rfl); (case hr => (go_simp; done)); intro gb107 hg w59 hbox hb; have n0_ := Aside0.mk (Kd.V_below (Kd.V_elderB (by exact HO1_2.out) gb107 (Nat.le_of_eq hg.symm)) hb); have n1_ := Aside0.mk (Kd.V_below (Kd.V_elderB (by exact HO1_3.out) gb107 (Nat.le_of_eq hg.symm)) hb); have n2_ := Aside0.mk (Kd.V_below (Kd.V_elderB (by exact HO1_4.out) gb107 (Nat.le_of_eq hg.symm)) hb); have n3_ := Aside0.mk (Kd.V_below (Kd.V_elderB (by exact HO1_5.out) gb107 (Nat.le_of_eq hg.symm)) hb); have n4_ := Aside0.mk (below_step (HB.out) hb); have n5_ := Aside0.mk (hbox); have n6_ := Aside0.mk ((by rw [hg]; exact (below_size (HB.out)) : w.heap.size ≤ gb107)); have n7_ := Aside0.mk ((by rw [hg]; exact (below_size (HB.out)) : w.heap.size ≤ gb107)); clear HO1_2; clear HO1_3; clear HO1_4; clear HO1_5; clear HB; have HO1_2 := n0_; have HO1_3 := n1_; have HO1_4 := n2_; have HO1_5 := n3_; have HB := n4_; have BK107 := n5_; have GW107 := n6_; have GE107 := n7_; clear n0_ n1_ n2_ n3_ n4_ n5_ n6_ n7_; clear hb hbox hg) | ((with_reducible refine gate_callee (f := 11) rfl ?_); refine goesL_ (some 16) rfl rfl Try.func11 (by kernel_rfl) rfl #[.slice A0 l0.length c0] rfl (by (simp only [List.map_toArray, List.map_cons, List.map_nil]); rfl) ?_; (with_reducible refine (space_Elements.calls _ _ l0 t108 t109 _ ?side1 ?side2 A3.out).mono ?_); (case side1 => repeat (exact (Kd.C_below HR0.out HB.out))); (case side2 => exact HC0.out); rintro e w' ⟨rfl, ⟨nd, rfl⟩⟩; refine ⟨_, rfl, ?_⟩))
 go_ret2
 exact ⟨by rfl, by repeat ((with_reducible first | exact HB.out | apply pw_below_drewN))⟩
end Go.Proofs.Ytjbjofmcmjojlaa.Wk
end
section
namespace Go.Proofs.Ytjbjofmcmjojlaa.Wk
open Go.RowKit Go.Proofs.YtjbjofmcmjojlaaW.PrintWords Go.Proofs.YtjbjofmcmjojlaaW.PrintLast Go.Proofs.YtjbjofmcmjojlaaW.PrintMore
attribute [local go_sem] max2_int min2_int max_two min_two max_three min_three max_four min_four
set_option linter.unusedVariables false
set_option linter.unusedSimpArgs false
def space_line.f (l0 : List Int) (a1_0 : Int) (l1_1 : List (List Int)) (l1_2 : List Int) (l1_3 : List Int) (l1_4 : List Int) (l1_5 : List Int) (a2 : Int) (a3 : Int) : Option (Int × Bool) := if a1_0 = 1 then (if 0 ≤ a2 then (if a2 < (l0.length : Int) then (some (a3, decide (a3 < (rd l0 a2)))) else (none)) else (none)) else (if 0 ≤ a2 then (if a2 < (l1_5.length : Int) then (if (rd l1_5 a2) = 0 then (none) else (if a2 < (l1_2.length : Int) then (if a2 < (l1_3.length : Int) then (if a2 < (l1_4.length : Int) then (some (wrap64 ((wrap64 ((rd l1_2 a2) + (wrap64 ((wrap64 (Int.tdiv a3 (rd l1_5 a2))) * (rd l1_3 a2))))) + (Int.tmod a3 (rd l1_5 a2))), decide ((wrap64 (Int.tdiv a3 (rd l1_5 a2))) < (rd l1_4 a2)))) else (none)) else (none)) else (none))) else (none)) else (none))
set_option maxHeartbeats 8000000 in
set_option maxRecDepth 100000 in
theorem space_line.calls (A0 : Option Addr) (c0 : Nat) (l0 : List Int) (a1_0 : Int) (A1_1 : Option Addr) (c1_1 : Nat) (l1_1 : List (List Int)) (A1_2 : Option Addr) (c1_2 : Nat) (l1_2 : List Int) (A1_3 : Option Addr) (c1_3 : Nat) (l1_3 : List Int) (A1_4 : Option Addr) (c1_4 : Nat) (l1_4 : List Int) (A1_5 : Option Addr) (c1_5 : Nat) (l1_5 : List Int) (a2 : Int) (a3 : Int) (r1 : Int) (r2 : Bool) (w : World) (hr0 : Kd.C (Kd.int .i64) w A0 l0.length l0) (hc0 : l0.length ≤ c0) (hr1_1 : Kd.C (Kd.slice 3 (Kd.int .i64)) w A1_1 l1_1.length l1_1) (hc1_1 : l1_1.length ≤ c1_1) (hr1_2 : Kd.C (Kd.int .i64) w A1_2 l1_2.length l1_2) (hc1_2 : l1_2.length ≤ c1_2) (hr1_3 : Kd.C (Kd.int .i64) w A1_3 l1_3.length l1_3) (hc1_3 : l1_3.length ≤ c1_3) (hr1_4 : Kd.C (Kd.int .i64) w A1_4 l1_4.length l1_4) (hc1_4 : l1_4.length ≤ c1_4) (hr1_5 : Kd.C (Kd.int .i64) w A1_5 l1_5.length l1_5) (hc1_5 : l1_5.length ≤ c1_5) (h : space_line.f l0 a1_0 l1_1 l1_2 l1_3 l1_4 l1_5 a2 a3 = some (r1, r2)) :
    Calls Try.prog 43 #[.slice A0 l0.length c0, .agg #[.int .i64 a1_0, .slice A1_1 l1_1.length c1_1, .slice A1_2 l1_2.length c1_2, .slice A1_3 l1_3.length c1_3, .slice A1_4 l1_4.length c1_4, .slice A1_5 l1_5.length c1_5], .int .i64 a2, .int .i64 a3] w fun e w' => e = .returned (.tuple #[.int .i64 r1, .bool r2]) ∧ Below w.heap.size w w' := by
  have hu33 := Try.underlying33
  have HR0 := Aside0.mk hr0
  have HC0 := Aside0.mk hc0
  clear hr0 hc0
  have HR1_1 := Aside0.mk hr1_1
  have HC1_1 := Aside0.mk hc1_1
  clear hr1_1 hc1_1
  have HR1_2 := Aside0.mk hr1_2
  have HC1_2 := Aside0.mk hc1_2
  clear hr1_2 hc1_2
  have HR1_3 := Aside0.mk hr1_3
  have HC1_3 := Aside0.mk hc1_3
  clear hr1_3 hc1_3
  have HR1_4 := Aside0.mk hr1_4
  have HC1_4 := Aside0.mk hc1_4
  clear hr1_4 hc1_4
  have HR1_5 := Aside0.mk hr1_5
  have HC1_5 := Aside0.mk hc1_5
  clear hr1_5 hc1_5
  have HB := Aside0.mk (Below.refl w.heap.size w)
  have H : (if a1_0 = 1 then (if 0 ≤ a2 then (if a2 < (l0.length : Int) then (some (a3, decide (a3 < (rd l0 a2)))) else (none)) else (none)) else (if 0 ≤ a2 then (if a2 < (l1_5.length : Int) then (if (rd l1_5 a2) = 0 then (none) else (if a2 < (l1_2.length : Int) then (if a2 < (l1_3.length : Int) then (if a2 < (l1_4.length : Int) then (some (wrap64 ((wrap64 ((rd l1_2 a2) + (wrap64 ((wrap64 (Int.tdiv a3 (rd l1_5 a2))) * (rd l1_3 a2))))) + (Int.tmod a3 (rd l1_5 a2))), decide ((wrap64 (Int.tdiv a3 (rd l1_5 a2))) < (rd l1_4 a2)))) else (none)) else (none)) else (none))) else (none)) else (none))) = some (r1, r2) := h
  clear h
  by_cases c5 : a1_0 = 1
  · rw [if_pos c5] at H
    have c5b0 : (a1_0 == 1) = true := beq_iff_eq.mpr c5
    have c5b1 : (a1_0 != 1) = false := bne_eq_false_iff_eq.mpr c5
    clear c5
    by_cases c6 : 0 ≤ a2
    · rw [if_pos c6] at H
      have c6b0 : decide (0 ≤ a2) = true := decide_eq_true c6
      clear c6
      by_cases c7 : a2 < (l0.length : Int)
      · rw [if_pos c7] at H
        have c7b0 : decide (a2 < (l0.length : Int)) = true := decide_eq_true c7
        clear c7
        simp only [Option.some.injEq, Prod.mk.injEq] at H
        obtain ⟨rfl, rfl⟩ := H
        go_enter Try.func43, Try.ntmps43
        go_wp2_with (first | ((with_reducible refine gate_dst (N := 5) rfl ?_); refine box_event ?hg (N := 5) ?hd (cs := #[.int .i64 a1_0, .slice A1_1 l1_1.length c1_1, .slice A1_2 l1_2.length c1_2, .slice A1_3 l1_3.length c1_3, .slice A1_4 l1_4.length c1_4, .slice A1_5 l1_5.length c1_5]) (t := 33) ?hr ?_; (case hd => rfl); (case hg => rfl); (case hr => first | (go_simp; done) | (go_simp; rfl)); intro gb131 hg w8 hbox hb; have n0_ := Aside0.mk (below_step (by repeat (first | (with_reducible first | exact HB.out | apply below_alloc | apply pw_below_drewN | apply below_drew1) | exact HB.out)) hb); have n1_ := Aside0.mk (hbox); have n2_ := Aside0.mk ((by rw [hg]; exact (below_size (by repeat (first | (with_reducible first | exact HB.out | apply below_alloc | apply pw_below_drewN | apply below_drew1) | exact HB.out))) : w.heap.size ≤ gb131)); have n3_ := Aside0.mk ((by rw [hg]; exact (below_size (by repeat (first | (with_reducible first | exact HB.out | apply below_alloc | apply pw_below_drewN | apply below_drew1) | exact HB.out))) : w.heap.size ≤ gb131)); clear HB; have HB := n0_; have BK131 := n1_; have GW131 := n2_; have GE131 := n3_; clear n0_ n1_ n2_ n3_; clear hb hbox hg; have hcz9_0 : w8.cell? ⟨gb131, 0, none⟩ = some (.int .i64 a1_0) := (blk_cell BK131.out 0).trans rfl; have hcz9_1 : w8.cell? ⟨gb131, 1, none⟩ = some (.slice A1_1 l1_1.length c1_1) := (blk_cell BK131.out 1).trans rfl; have hcz9_2 : w8.cell? ⟨gb131, 2, none⟩ = some (.slice A1_2 l1_2.length c1_2) := (blk_cell BK131.out 2).trans rfl; have hcz9_3 : w8.cell? ⟨gb131, 3, none⟩ = some (.slice A1_3 l1_3.length c1_3) := (blk_cell BK131.out 3).trans rfl; have hcz9_4 : w8.cell? ⟨gb131, 4, none⟩ = some (.slice A1_4 l1_4.length c1_4) := (blk_cell BK131.out 4).trans rfl; have hcz9_5 : w8.cell? ⟨gb131, 5, none⟩ = some (.slice A1_5 l1_5.length c1_5) := (blk_cell BK131.out 5).trans rfl; have hfz9_0 := blk_frozen BK131.out 0; have hfz9_1 := blk_frozen BK131.out 1; have hfz9_2 := blk_frozen BK131.out 2; have hfz9_3 := blk_frozen BK131.out 3; have hfz9_4 := blk_frozen BK131.out 4; have hfz9_5 := blk_frozen BK131.out 5; have p132 : 0 ≤ (a2 : Int) := of_decide_eq_true (by first | (with_reducible assumption) | assumption); have q132 : a2 < (l0.length : Int) := of_decide_eq_true (by first | (with_reducible assumption) | assumption); obtain ⟨ad132, e132, hx132_0⟩ := Kd.at_int HR0.out a2 p132 q132; cases e132; replace hx132_0 := (HB.out.cell (World.block_lt_of_cell? w _ hx132_0)).trans hx132_0; replace p132 := eq_true p132; replace q132 := eq_true q132))
        repeat (go_quiet (first | ((with_reducible refine gate_dst (N := 5) rfl ?_); refine box_event ?hg (N := 5) ?hd (cs := #[.int .i64 a1_0, .slice A1_1 l1_1.length c1_1, .slice A1_2 l1_2.length c1_2, .slice A1_3 l1_3.length c1_3, .slice A1_4 l1_4.length c1_4, .slice A1_5 l1_5.length c1_5]) (t := 33) ?hr ?_; (case hd => rfl); (case hg => rfl); (case hr => first | (go_simp; done) | (go_simp; rfl)); intro gb131 hg w8 hbox hb; have n0_ := Aside0.mk (below_step (by repeat (first | (with_reducible first | exact HB.out | apply below_alloc | apply pw_below_drewN | apply below_drew1) | exact HB.out)) hb); have n1_ := Aside0.mk (hbox); have n2_ := Aside0.mk ((by rw [hg]; exact (below_size (by repeat (first | (with_reducible first | exact HB.out | apply below_alloc | apply pw_below_drewN | apply below_drew1) | exact HB.out))) : w.heap.size ≤ gb131)); have n3_ := Aside0.mk ((by rw [hg]; exact (below_size (by repeat (first | (with_reducible first | exact HB.out | apply below_alloc | apply pw_below_drewN | apply below_drew1) | exact HB.out))) : w.heap.size ≤ gb131)); clear HB; have HB := n0_; have BK131 := n1_; have GW131 := n2_; have GE131 := n3_; clear n0_ n1_ n2_ n3_; clear hb hbox hg; have hcz9_0 : w8.cell? ⟨gb131, 0, none⟩ = some (.int .i64 a1_0) := (blk_cell BK131.out 0).trans rfl; have hcz9_1 : w8.cell? ⟨gb131, 1, none⟩ = some (.slice A1_1 l1_1.length c1_1) := (blk_cell BK131.out 1).trans rfl; have hcz9_2 : w8.cell? ⟨gb131, 2, none⟩ = some (.slice A1_2 l1_2.length c1_2) := (blk_cell BK131.out 2).trans rfl; have hcz9_3 : w8.cell? ⟨gb131, 3, none⟩ = some (.slice A1_3 l1_3.length c1_3) := (blk_cell BK131.out 3).trans rfl; have hcz9_4 : w8.cell? ⟨gb131, 4, none⟩ = some (.slice A1_4 l1_4.length c1_4) := (blk_cell BK131.out 4).trans rfl; have hcz9_5 : w8.cell? ⟨gb131, 5, none⟩ = some (.slice A1_5 l1_5.length c1_5) := (blk_cell BK131.out 5).trans rfl; have hfz9_0 := blk_frozen BK131.out 0; have hfz9_1 := blk_frozen BK131.out 1; have hfz9_2 := blk_frozen BK131.out 2; have hfz9_3 := blk_frozen BK131.out 3; have hfz9_4 := blk_frozen BK131.out 4; have hfz9_5 := blk_frozen BK131.out 5; have p132 : 0 ≤ (a2 : Int) := of_decide_eq_true (by first | (with_reducible assumption) | assumption); have q132 : a2 < (l0.length : Int) := of_decide_eq_true (by first | (with_reducible assumption) | assumption); obtain ⟨ad132, e132, hx132_0⟩ := Kd.at_int HR0.out a2 p132 q132; cases e132; replace hx132_0 := (HB.out.cell (World.block_lt_of_cell? w _ hx132_0)).trans hx132_0; replace p132 := eq_true p132; replace q132 := eq_true q132)); try go_wp2_with (first | ((with_reducible refine gate_dst (N := 5) rfl ?_); refine box_event ?hg (N := 5) ?hd (cs := #[.int .i64 a1_0, .slice A1_1 l1_1.length c1_1, .slice A1_2 l1_2.length c1_2, .slice A1_3 l1_3.length c1_3, .slice A1_4 l1_4.length c1_4, .slice A1_5 l1_5.length c1_5]) (t := 33) ?hr ?_; (case hd => rfl); (case hg => rfl); (case hr => first | (go_simp; done) | (go_simp; rfl)); intro gb131 hg w8 hbox hb; have n0_ := Aside0.mk (below_step (by repeat (first | (with_reducible first | exact HB.out | apply below_alloc | apply pw_below_drewN | apply below_drew1) | exact HB.out)) hb); have n1_ := Aside0.mk (hbox); have n2_ := Aside0.mk ((by rw [hg]; exact (below_size (by repeat (first | (with_reducible first | exact HB.out | apply below_alloc | apply pw_below_drewN | apply below_drew1) | exact HB.out))) : w.heap.size ≤ gb131)); have n3_ := Aside0.mk ((by rw [hg]; exact (below_size (by repeat (first | (with_reducible first | exact HB.out | apply below_alloc | apply pw_below_drewN | apply below_drew1) | exact HB.out))) : w.heap.size ≤ gb131)); clear HB; have HB := n0_; have BK131 := n1_; have GW131 := n2_; have GE131 := n3_; clear n0_ n1_ n2_ n3_; clear hb hbox hg; have hcz9_0 : w8.cell? ⟨gb131, 0, none⟩ = some (.int .i64 a1_0) := (blk_cell BK131.out 0).trans rfl; have hcz9_1 : w8.cell? ⟨gb131, 1, none⟩ = some (.slice A1_1 l1_1.length c1_1) := (blk_cell BK131.out 1).trans rfl; have hcz9_2 : w8.cell? ⟨gb131, 2, none⟩ = some (.slice A1_2 l1_2.length c1_2) := (blk_cell BK131.out 2).trans rfl; have hcz9_3 : w8.cell? ⟨gb131, 3, none⟩ = some (.slice A1_3 l1_3.length c1_3) := (blk_cell BK131.out 3).trans rfl; have hcz9_4 : w8.cell? ⟨gb131, 4, none⟩ = some (.slice A1_4 l1_4.length c1_4) := (blk_cell BK131.out 4).trans rfl; have hcz9_5 : w8.cell? ⟨gb131, 5, none⟩ = some (.slice A1_5 l1_5.length c1_5) := (blk_cell BK131.out 5).trans rfl; have hfz9_0 := blk_frozen BK131.out 0; have hfz9_1 := blk_frozen BK131.out 1; have hfz9_2 := blk_frozen BK131.out 2; have hfz9_3 := blk_frozen BK131.out 3; have hfz9_4 := blk_frozen BK131.out 4; have hfz9_5 := blk_frozen BK131.out 5; have p132 : 0 ≤ (a2 : Int) := of_decide_eq_true (by first | (with_reducible assumption) | assumption); have q132 : a2 < (l0.length : Int) := of_decide_eq_true (by first | (with_reducible assumption) | assumption); obtain ⟨ad132, e132, hx132_0⟩ := Kd.at_int HR0.out a2 p132 q132; cases e132; replace hx132_0 := (HB.out.cell (World.block_lt_of_cell? w _ hx132_0)).trans hx132_0; replace p132 := eq_true p132; replace q132 := eq_true q132)))
        go_ret2
        exact ⟨by first | rfl | (simp [errW_none, errW_some] <;> rfl) | (simp [*, errW_none, errW_some] <;> rfl), by repeat (first | (with_reducible first | exact HB.out | apply below_alloc | apply pw_below_drewN | apply below_drew1 | refine below_set ?_ GE131.out) | exact HB.out)⟩
      · rw [if_neg c7] at H
        exact absurd H (by simp)
    · rw [if_neg c6] at H
      exact absurd H (by simp)
  · rw [if_neg c5] at H
    have c5b0 : (a1_0 == 1) = false := beq_eq_false_iff_ne.mpr c5
    have c5b1 : (a1_0 != 1) = true := bne_iff_ne.mpr c5
    by_cases c10 : 0 ≤ a2
    · rw [if_pos c10] at H
      have c10b0 : decide (0 ≤ a2) = true := decide_eq_true c10
      clear c10
      by_cases c11 : a2 < (l1_5.length : Int)
      · rw [if_pos c11] at H
        have c11b0 : decide (a2 < (l1_5.length : Int)) = true := decide_eq_true c11
        clear c11
        by_cases c12 : (rd l1_5 a2) = 0
        · rw [if_pos c12] at H
          exact absurd H (by simp)
        · rw [if_neg c12] at H
          have c12b0 : ((rd l1_5 a2) == 0) = false := beq_eq_false_iff_ne.mpr c12
          have c12b1 : ((rd l1_5 a2) != 0) = true := bne_iff_ne.mpr c12
          by_cases c13 : a2 < (l1_2.length : Int)
          · rw [if_pos c13] at H
            have c13b0 : decide (a2 < (l1_2.length : Int)) = true := decide_eq_true c13
            clear c13
            by_cases c14 : a2 < (l1_3.length : Int)
            · rw [if_pos c14] at H
              have c14b0 : decide (a2 < (l1_3.length : Int)) = true := decide_eq_true c14
              clear c14
              by_cases c15 : a2 < (l1_4.length : Int)
              · rw [if_pos c15] at H
                have c15b0 : decide (a2 < (l1_4.length : Int)) = true := decide_eq_true c15
                clear c15
                simp only [Option.some.injEq, Prod.mk.injEq] at H
                obtain ⟨rfl, rfl⟩ := H
                go_enter Try.func43, Try.ntmps43
                go_wp2_with (first | ((with_reducible refine gate_dst (N := 5) rfl ?_); refine box_event ?hg (N := 5) ?hd (cs := #[.int .i64 a1_0, .slice A1_1 l1_1.length c1_1, .slice A1_2 l1_2.length c1_2, .slice A1_3 l1_3.length c1_3, .slice A1_4 l1_4.length c1_4, .slice A1_5 l1_5.length c1_5]) (t := 33) ?hr ?_; (case hd => rfl); (case hg => rfl); (case hr => first | (go_simp; done) | (go_simp; rfl)); intro gb131 hg w16 hbox hb; have n0_ := Aside0.mk (below_step (by repeat (first | (with_reducible first | exact HB.out | apply below_alloc | apply pw_below_drewN | apply below_drew1) | exact HB.out)) hb); have n1_ := Aside0.mk (hbox); have n2_ := Aside0.mk ((by rw [hg]; exact (below_size (by repeat (first | (with_reducible first | exact HB.out | apply below_alloc | apply pw_below_drewN | apply below_drew1) | exact HB.out))) : w.heap.size ≤ gb131)); have n3_ := Aside0.mk ((by rw [hg]; exact (below_size (by repeat (first | (with_reducible first | exact HB.out | apply below_alloc | apply pw_below_drewN | apply below_drew1) | exact HB.out))) : w.heap.size ≤ gb131)); clear HB; have HB := n0_; have BK131 := n1_; have GW131 := n2_; have GE131 := n3_; clear n0_ n1_ n2_ n3_; clear hb hbox hg; have hcz17_0 : w16.cell? ⟨gb131, 0, none⟩ = some (.int .i64 a1_0) := (blk_cell BK131.out 0).trans rfl; have hcz17_1 : w16.cell? ⟨gb131, 1, none⟩ = some (.slice A1_1 l1_1.length c1_1) := (blk_cell BK131.out 1).trans rfl; have hcz17_2 : w16.cell? ⟨gb131, 2, none⟩ = some (.slice A1_2 l1_2.length c1_2) := (blk_cell BK131.out 2).trans rfl; have hcz17_3 : w16.cell? ⟨gb131, 3, none⟩ = some (.slice A1_3 l1_3.length c1_3) := (blk_cell BK131.out 3).trans rfl; have hcz17_4 : w16.cell? ⟨gb131, 4, none⟩ = some (.slice A1_4 l1_4.length c1_4) := (blk_cell BK131.out 4).trans rfl; have hcz17_5 : w16.cell? ⟨gb131, 5, none⟩ = some (.slice A1_5 l1_5.length c1_5) := (blk_cell BK131.out 5).trans rfl; have hfz17_0 := blk_frozen BK131.out 0; have hfz17_1 := blk_frozen BK131.out 1; have hfz17_2 := blk_frozen BK131.out 2; have hfz17_3 := blk_frozen BK131.out 3; have hfz17_4 := blk_frozen BK131.out 4; have hfz17_5 := blk_frozen BK131.out 5; have p133 : 0 ≤ (a2 : Int) := of_decide_eq_true (by first | (with_reducible assumption) | assumption); have q133 : a2 < (l1_5.length : Int) := of_decide_eq_true (by first | (with_reducible assumption) | assumption); obtain ⟨ad133, e133, hx133_0⟩ := Kd.at_int HR1_5.out a2 p133 q133; cases e133; replace hx133_0 := (HB.out.cell (World.block_lt_of_cell? w _ hx133_0)).trans hx133_0; replace p133 := eq_true p133; replace q133 := eq_true q133; have p134 : 0 ≤ (a2 : Int) := of_decide_eq_true (by first | (with_reducible assumption) | assumption); have q134 : a2 < (l1_5.length : Int) := of_decide_eq_true (by first | (with_reducible assumption) | assumption); obtain ⟨ad134, e134, hx134_0⟩ := Kd.at_int HR1_5.out a2 p134 q134; obtain rfl : ad133 = ad134 := (by injection e134); replace hx134_0 := (HB.out.cell (World.block_lt_of_cell? w _ hx134_0)).trans hx134_0; replace p134 := eq_true p134; replace q134 := eq_true q134; have p135 : 0 ≤ (a2 : Int) := of_decide_eq_true (by first | (with_reducible assumption) | assumption); have q135 : a2 < (l1_2.length : Int) := of_decide_eq_true (by first | (with_reducible assumption) | assumption); obtain ⟨ad135, e135, hx135_0⟩ := Kd.at_int HR1_2.out a2 p135 q135; cases e135; replace hx135_0 := (HB.out.cell (World.block_lt_of_cell? w _ hx135_0)).trans hx135_0; replace p135 := eq_true p135; replace q135 := eq_true q135; have p136 : 0 ≤ (a2 : Int) := of_decide_eq_true (by first | (with_reducible assumption) | assumption); have q136 : a2 < (l1_3.length : Int) := of_decide_eq_true (by first | (with_reducible assumption) | assumption); obtain ⟨ad136, e136, hx136_0⟩ := Kd.at_int HR1_3.out a2 p136 q136; cases e136; replace hx136_0 := (HB.out.cell (World.block_lt_of_cell? w _ hx136_0)).trans hx136_0; replace p136 := eq_true p136; replace q136 := eq_true q136; have p137 : 0 ≤ (a2 : Int) := of_decide_eq_true (by first | (with_reducible assumption) | assumption); have q137 : a2 < (l1_4.length : Int) := of_decide_eq_true (by first | (with_reducible assumption) | assumption); obtain ⟨ad137, e137, hx137_0⟩ := Kd.at_int HR1_4.out a2 p137 q137; cases e137; replace hx137_0 := (HB.out.cell (World.block_lt_of_cell? w _ hx137_0)).trans hx137_0; replace p137 := eq_true p137; replace q137 := eq_true q137))
                repeat (go_quiet (first | ((with_reducible refine gate_dst (N := 5) rfl ?_); refine box_event ?hg (N := 5) ?hd (cs := #[.int .i64 a1_0, .slice A1_1 l1_1.length c1_1, .slice A1_2 l1_2.length c1_2, .slice A1_3 l1_3.length c1_3, .slice A1_4 l1_4.length c1_4, .slice A1_5 l1_5.length c1_5]) (t := 33) ?hr ?_; (case hd => rfl); (case hg => rfl); (case hr => first | (go_simp; done) | (go_simp; rfl)); intro gb131 hg w16 hbox hb; have n0_ := Aside0.mk (below_step (by repeat (first | (with_reducible first | exact HB.out | apply below_alloc | apply pw_below_drewN | apply below_drew1) | exact HB.out)) hb); have n1_ := Aside0.mk (hbox); have n2_ := Aside0.mk ((by rw [hg]; exact (below_size (by repeat (first | (with_reducible first | exact HB.out | apply below_alloc | apply pw_below_drewN | apply below_drew1) | exact HB.out))) : w.heap.size ≤ gb131)); have n3_ := Aside0.mk ((by rw [hg]; exact (below_size (by repeat (first | (with_reducible first | exact HB.out | apply below_alloc | apply pw_below_drewN | apply below_drew1) | exact HB.out))) : w.heap.size ≤ gb131)); clear HB; have HB := n0_; have BK131 := n1_; have GW131 := n2_; have GE131 := n3_; clear n0_ n1_ n2_ n3_; clear hb hbox hg; have hcz17_0 : w16.cell? ⟨gb131, 0, none⟩ = some (.int .i64 a1_0) := (blk_cell BK131.out 0).trans rfl; have hcz17_1 : w16.cell? ⟨gb131, 1, none⟩ = some (.slice A1_1 l1_1.length c1_1) := (blk_cell BK131.out 1).trans rfl; have hcz17_2 : w16.cell? ⟨gb131, 2, none⟩ = some (.slice A1_2 l1_2.length c1_2) := (blk_cell BK131.out 2).trans rfl; have hcz17_3 : w16.cell? ⟨gb131, 3, none⟩ = some (.slice A1_3 l1_3.length c1_3) := (blk_cell BK131.out 3).trans rfl; have hcz17_4 : w16.cell? ⟨gb131, 4, none⟩ = some (.slice A1_4 l1_4.length c1_4) := (blk_cell BK131.out 4).trans rfl; have hcz17_5 : w16.cell? ⟨gb131, 5, none⟩ = some (.slice A1_5 l1_5.length c1_5) := (blk_cell BK131.out 5).trans rfl; have hfz17_0 := blk_frozen BK131.out 0; have hfz17_1 := blk_frozen BK131.out 1; have hfz17_2 := blk_frozen BK131.out 2; have hfz17_3 := blk_frozen BK131.out 3; have hfz17_4 := blk_frozen BK131.out 4; have hfz17_5 := blk_frozen BK131.out 5; have p133 : 0 ≤ (a2 : Int) := of_decide_eq_true (by first | (with_reducible assumption) | assumption); have q133 : a2 < (l1_5.length : Int) := of_decide_eq_true (by first | (with_reducible assumption) | assumption); obtain ⟨ad133, e133, hx133_0⟩ := Kd.at_int HR1_5.out a2 p133 q133; cases e133; replace hx133_0 := (HB.out.cell (World.block_lt_of_cell? w _ hx133_0)).trans hx133_0; replace p133 := eq_true p133; replace q133 := eq_true q133; have p134 : 0 ≤ (a2 : Int) := of_decide_eq_true (by first | (with_reducible assumption) | assumption); have q134 : a2 < (l1_5.length : Int) := of_decide_eq_true (by first | (with_reducible assumption) | assumption); obtain ⟨ad134, e134, hx134_0⟩ := Kd.at_int HR1_5.out a2 p134 q134; obtain rfl : ad133 = ad134 := (by injection e134); replace hx134_0 := (HB.out.cell (World.block_lt_of_cell? w _ hx134_0)).trans hx134_0; replace p134 := eq_true p134; replace q134 := eq_true q134; have p135 : 0 ≤ (a2 : Int) := of_decide_eq_true (by first | (with_reducible assumption) | assumption); have q135 : a2 < (l1_2.length : Int) := of_decide_eq_true (by first | (with_reducible assumption) | assumption); obtain ⟨ad135, e135, hx135_0⟩ := Kd.at_int HR1_2.out a2 p135 q135; cases e135; replace hx135_0 := (HB.out.cell (World.block_lt_of_cell? w _ hx135_0)).trans hx135_0; replace p135 := eq_true p135; replace q135 := eq_true q135; have p136 : 0 ≤ (a2 : Int) := of_decide_eq_true (by first | (with_reducible assumption) | assumption); have q136 : a2 < (l1_3.length : Int) := of_decide_eq_true (by first | (with_reducible assumption) | assumption); obtain ⟨ad136, e136, hx136_0⟩ := Kd.at_int HR1_3.out a2 p136 q136; cases e136; replace hx136_0 := (HB.out.cell (World.block_lt_of_cell? w _ hx136_0)).trans hx136_0; replace p136 := eq_true p136; replace q136 := eq_true q136; have p137 : 0 ≤ (a2 : Int) := of_decide_eq_true (by first | (with_reducible assumption) | assumption); have q137 : a2 < (l1_4.length : Int) := of_decide_eq_true (by first | (with_reducible assumption) | assumption); obtain ⟨ad137, e137, hx137_0⟩ := Kd.at_int HR1_4.out a2 p137 q137; cases e137; replace hx137_0 := (HB.out.cell (World.block_lt_of_cell? w _ hx137_0)).trans hx137_0; replace p137 := eq_true p137; replace q137 := eq_true q137)); try go_wp2_with (first | ((with_reducible refine gate_dst (N := 5) rfl ?_); refine box_event ?hg (N := 5) ?hd (cs := #[.int .i64 a1_0, .slice A1_1 l1_1.length c1_1, .slice A1_2 l1_2.length c1_2, .slice A1_3 l1_3.length c1_3, .slice A1_4 l1_4.length c1_4, .slice A1_5 l1_5.length c1_5]) (t := 33) ?hr ?_; (case hd => rfl); (case hg => rfl); (case hr => first | (go_simp; done) | (go_simp; rfl)); intro gb131 hg w16 hbox hb; have n0_ := Aside0.mk (below_step (by repeat (first | (with_reducible first | exact HB.out | apply below_alloc | apply pw_below_drewN | apply below_drew1) | exact HB.out)) hb); have n1_ := Aside0.mk (hbox); have n2_ := Aside0.mk ((by rw [hg]; exact (below_size (by repeat (first | (with_reducible first | exact HB.out | apply below_alloc | apply pw_below_drewN | apply below_drew1) | exact HB.out))) : w.heap.size ≤ gb131)); have n3_ := Aside0.mk ((by rw [hg]; exact (below_size (by repeat (first | (with_reducible first | exact HB.out | apply below_alloc | apply pw_below_drewN | apply below_drew1) | exact HB.out))) : w.heap.size ≤ gb131)); clear HB; have HB := n0_; have BK131 := n1_; have GW131 := n2_; have GE131 := n3_; clear n0_ n1_ n2_ n3_; clear hb hbox hg; have hcz17_0 : w16.cell? ⟨gb131, 0, none⟩ = some (.int .i64 a1_0) := (blk_cell BK131.out 0).trans rfl; have hcz17_1 : w16.cell? ⟨gb131, 1, none⟩ = some (.slice A1_1 l1_1.length c1_1) := (blk_cell BK131.out 1).trans rfl; have hcz17_2 : w16.cell? ⟨gb131, 2, none⟩ = some (.slice A1_2 l1_2.length c1_2) := (blk_cell BK131.out 2).trans rfl; have hcz17_3 : w16.cell? ⟨gb131, 3, none⟩ = some (.slice A1_3 l1_3.length c1_3) := (blk_cell BK131.out 3).trans rfl; have hcz17_4 : w16.cell? ⟨gb131, 4, none⟩ = some (.slice A1_4 l1_4.length c1_4) := (blk_cell BK131.out 4).trans rfl; have hcz17_5 : w16.cell? ⟨gb131, 5, none⟩ = some (.slice A1_5 l1_5.length c1_5) := (blk_cell BK131.out 5).trans rfl; have hfz17_0 := blk_frozen BK131.out 0; have hfz17_1 := blk_frozen BK131.out 1; have hfz17_2 := blk_frozen BK131.out 2; have hfz17_3 := blk_frozen BK131.out 3; have hfz17_4 := blk_frozen BK131.out 4; have hfz17_5 := blk_frozen BK131.out 5; have p133 : 0 ≤ (a2 : Int) := of_decide_eq_true (by first | (with_reducible assumption) | assumption); have q133 : a2 < (l1_5.length : Int) := of_decide_eq_true (by first | (with_reducible assumption) | assumption); obtain ⟨ad133, e133, hx133_0⟩ := Kd.at_int HR1_5.out a2 p133 q133; cases e133; replace hx133_0 := (HB.out.cell (World.block_lt_of_cell? w _ hx133_0)).trans hx133_0; replace p133 := eq_true p133; replace q133 := eq_true q133; have p134 : 0 ≤ (a2 : Int) := of_decide_eq_true (by first | (with_reducible assumption) | assumption); have q134 : a2 < (l1_5.length : Int) := of_decide_eq_true (by first | (with_reducible assumption) | assumption); obtain ⟨ad134, e134, hx134_0⟩ := Kd.at_int HR1_5.out a2 p134 q134; obtain rfl : ad133 = ad134 := (by injection e134); replace hx134_0 := (HB.out.cell (World.block_lt_of_cell? w _ hx134_0)).trans hx134_0; replace p134 := eq_true p134; replace q134 := eq_true q134; have p135 : 0 ≤ (a2 : Int) := of_decide_eq_true (by first | (with_reducible assumption) | assumption); have q135 : a2 < (l1_2.length : Int) := of_decide_eq_true (by first | (with_reducible assumption) | assumption); obtain ⟨ad135, e135, hx135_0⟩ := Kd.at_int HR1_2.out a2 p135 q135; cases e135; replace hx135_0 := (HB.out.cell (World.block_lt_of_cell? w _ hx135_0)).trans hx135_0; replace p135 := eq_true p135; replace q135 := eq_true q135; have p136 : 0 ≤ (a2 : Int) := of_decide_eq_true (by first | (with_reducible assumption) | assumption); have q136 : a2 < (l1_3.length : Int) := of_decide_eq_true (by first | (with_reducible assumption) | assumption); obtain ⟨ad136, e136, hx136_0⟩ := Kd.at_int HR1_3.out a2 p136 q136; cases e136; replace hx136_0 := (HB.out.cell (World.block_lt_of_cell? w _ hx136_0)).trans hx136_0; replace p136 := eq_true p136; replace q136 := eq_true q136; have p137 : 0 ≤ (a2 : Int) := of_decide_eq_true (by first | (with_reducible assumption) | assumption); have q137 : a2 < (l1_4.length : Int) := of_decide_eq_true (by first | (with_reducible assumption) | assumption); obtain ⟨ad137, e137, hx137_0⟩ := Kd.at_int HR1_4.out a2 p137 q137; cases e137; replace hx137_0 := (HB.out.cell (World.block_lt_of_cell? w _ hx137_0)).trans hx137_0; replace p137 := eq_true p137; replace q137 := eq_true q137)))
                go_ret2
                exact ⟨by first | rfl | (simp [errW_none, errW_some] <;> rfl) | (simp [*, errW_none, errW_some] <;> rfl), by repeat (first | (with_reducible first | exact HB.out | apply below_alloc | apply pw_below_drewN | apply below_drew1 | refine below_set ?_ GE131.out) | exact HB.out)⟩
              · rw [if_neg c15] at H
                exact absurd H (by simp)
            · rw [if_neg c14] at H
              exact absurd H (by simp)
          · rw [if_neg c13] at H
            exact absurd H (by simp)
      · rw [if_neg c11] at H
        exact absurd H (by simp)
    · rw [if_neg c10] at H
      exact absurd H (by simp)
end Go.Proofs.Ytjbjofmcmjojlaa.Wk
end
section
namespace Go.Proofs.Ytjbjofmcmjojlaa.Wk
open Go.RowKit Go.Proofs.YtjbjofmcmjojlaaW.PrintWords Go.Proofs.YtjbjofmcmjojlaaW.PrintLast Go.Proofs.YtjbjofmcmjojlaaW.PrintMore
attribute [local go_sem] max2_int min2_int max_two min_two max_three min_three max_four min_four
set_option linter.unusedVariables false
set_option linter.unusedSimpArgs false
section
open Go.Proofs.YtjbjofmcmjojlaaQ
attribute [local go_sem] Oper.semAt_some
def RdI (x : List Int) (v : Value) (W : World) : Prop := ∃ A c, v = .slice A x.length c ∧ x.length ≤ c ∧ (Kd.int .i64).C W A x.length x
set_option maxHeartbeats 1000000 in
theorem each1_points (Bs Bd : Nat) (A1 : Option Addr) (c1 : Nat) (pts : List (List Int)) (S0 : Nat → Prop) (w : World)
    (hS0 : ∀ k, S0 k → k < w.heap.size) (hf : ∀ W, SameOn S0 w W → W.cell? ⟨Bs, 0, none⟩ = some (.int .i64 2) ∧ W.cell? ⟨Bs, 1, none⟩ = some (.slice A1 pts.length c1) ∧ (Kd.slice 3 (Kd.int .i64)).C W A1 pts.length pts) :
    Hands Try.prog 42 #[.pointer (some ⟨Bs, 0, none⟩), .pointer (some ⟨Bd, 0, none⟩)] RdI pts S0 w := by
  intro l n J W hW hJ hY h0
  have HF := Aside0.mk hf
  have HY := Aside0.mk hY
  have HS0 := Aside0.mk hS0
  clear hf hY hS0
  obtain ⟨f0, f1, fC⟩ := HF.out _ hW
  have hm := Kd.C_max fC
  have FC := Aside0.mk fC
  clear fC
  have hu33 := Try.underlying33
  have hro : Fence.wide.round = none := rfl
  have hdp : Fence.wide.depth = none := rfl
  have hdi : ¬ (Fence.wide.depth.isSome = true) := by simp [Fence.wide]
  refine callsIn_of_wp Try.func42 rfl trivial ?_ rfl
  simp only [Try.ntmps42, List.size_toArray, List.length_cons, List.length_nil, Nat.reduceAdd, Nat.reduceSub, Array.replicate_succ, Array.replicate_zero, List.push_toArray, List.append_toArray, List.nil_append, List.cons_append]
  have HJ0 := Aside0.mk h0
  have HW0 := Aside0.mk hW
  clear h0 hW
  refine wpIn_wide.2 (Go.wp_scope_straight ((wpIn_wide (n := n)).1 ?_))
  gi_wp2
  gi_loopw [5, 18] (fun _ i wr => ∃ k : Nat, k ≤ pts.length ∧ i = .int .i64 k ∧ Aside0 (J S0 (pts.take k) wr) ∧ Aside0 (SameOn S0 w wr)) (fun _ i _ => pts.length - (intOf i).toNat)
  case atStart => exact ⟨0, Nat.zero_le _, rfl, HJ0, HW0⟩
  case round =>
    obtain ⟨k, hk, rfl, HJ, HS⟩ := hrel
    by_cases hlt : k < pts.length
    · obtain ⟨g0, g1, gC⟩ := HF.out _ HS.out
      obtain ⟨ad, A0, c0, e1, hx, hcc, hC⟩ := at_ints gC k hlt
      clear gC
      have HT : Aside0 (pts.take (k + 1) = pts.take k ++ [pts.getD k []]) := ⟨by rw [List.take_succ_eq_append_getElem hlt]; simp [List.getD_eq_getElem?_getD, hlt]⟩
      generalize pts.getD k [] = y at hx hcc hC HT
      obtain ⟨fn, tmps, assign, body, hy, hR⟩ := HY.out S0 (pts.take k) y _ wr HJ.out (fun _ h => h) (fun k h => Nat.lt_of_lt_of_le (HS0.out k h) HS.out.1) (by rw [← HT.out]; exact List.take_prefix _ _) ⟨A0, c0, rfl, hcc, hC⟩
      cases e1
      clear hC
      gi_wp2
      refine hR.mono ?_
      rintro e W3 ⟨rfl, hJ3, hs3⟩
      gi_wp2
      go_roundw
      case rel => exact ⟨k + 1, by omega, by simp, ⟨by rw [HT.out]; exact hJ3⟩, ⟨HS.out.trans hs3⟩⟩
      case measure => simp [intOf]; omega
    · obtain rfl : k = pts.length := by omega
      gi_wp2
      rw [Exit.noGoto_ret]
      exact bodyPost_ret (results_none rfl _ _ _) rfl ⟨⟨_, rfl⟩, S0, by simpa using HJ.out⟩
structure SelMem (W : World) (Bs Bd : Nat) (A0 : Option Addr) (c0 : Nat) (l0 : List Int) (a1_0 : Int) (A1_1 : Option Addr) (c1_1 : Nat) (l1_1 : List (List Int)) (A1_2 : Option Addr) (c1_2 : Nat) (l1_2 : List Int) (A1_3 : Option Addr) (c1_3 : Nat) (l1_3 : List Int) (A1_4 : Option Addr) (c1_4 : Nat) (l1_4 : List Int) (A1_5 : Option Addr) (c1_5 : Nat) (l1_5 : List Int) : Prop where
  cd : W.cell? ⟨Bd, 0, none⟩ = some (.slice A0 l0.length c0)
  k0 : W.cell? ⟨Bs, 0, none⟩ = some (.int .i64 a1_0)
  k1 : W.cell? ⟨Bs, 1, none⟩ = some (.slice A1_1 l1_1.length c1_1)
  k2 : W.cell? ⟨Bs, 2, none⟩ = some (.slice A1_2 l1_2.length c1_2)
  k3 : W.cell? ⟨Bs, 3, none⟩ = some (.slice A1_3 l1_3.length c1_3)
  k4 : W.cell? ⟨Bs, 4, none⟩ = some (.slice A1_4 l1_4.length c1_4)
  k5 : W.cell? ⟨Bs, 5, none⟩ = some (.slice A1_5 l1_5.length c1_5)
  r0 : (Kd.int .i64).C W A0 l0.length l0
  r1 : (Kd.slice 3 (Kd.int .i64)).C W A1_1 l1_1.length l1_1
  r2 : (Kd.int .i64).C W A1_2 l1_2.length l1_2
  r3 : (Kd.int .i64).C W A1_3 l1_3.length l1_3
  r4 : (Kd.int .i64).C W A1_4 l1_4.length l1_4
  r5 : (Kd.int .i64).C W A1_5 l1_5.length l1_5
  b0 : l0.length ≤ c0
  b1 : l1_1.length ≤ c1_1
  b2 : l1_2.length ≤ c1_2
  b3 : l1_3.length ≤ c1_3
  b4 : l1_4.length ≤ c1_4
  b5 : l1_5.length ≤ c1_5
def initAt (av : Nat → Nat → Int) (n k : Nat) : List Int := (List.range n).map fun d => if d < k then av d 0 else 0
theorem initAt_zero (av : Nat → Nat → Int) (n : Nat) : initAt av n 0 = List.replicate n 0 := by
  unfold initAt
  simp [List.map_const']
theorem initAt_succ (av : Nat → Nat → Int) (n k : Nat) (h : k < n) : (initAt av n k).set k (av k 0) = initAt av n (k + 1) := by
  unfold initAt
  apply List.ext_getElem
  · simp
  · intro i h1 h2
    simp only [List.getElem_set, List.getElem_map, List.getElem_range]
    by_cases e : k = i
    · subst e; simp
    · rw [if_neg e]
      by_cases h3 : i < k
      · rw [if_pos h3, if_pos (by omega)]
      · rw [if_neg h3, if_neg (by omega)]
theorem ints_zero (n : Nat) : ints (List.replicate n 0) = List.replicate n 0 := by simp [ints]
theorem initAt_all (av : Nat → Nat → Int) (n : Nat) : initAt av n n = tupAt av (List.replicate n 0) := by
  unfold initAt tupAt
  rw [List.length_replicate]
  apply List.map_congr_left
  intro d hd
  have : d < n := by simpa using hd
  rw [if_pos this]
  simp [List.getD_eq_getElem?_getD, this]
theorem rdOf_ints (s : List Nat) (e : Nat) : rdOf (0 : Int) (ints s) e = (s.getD e 0 : Nat) := by
  unfold rdOf ints
  rw [Int.toNat_natCast]
  by_cases h : e < s.length
  · simp [List.getD_eq_getElem?_getD, h]
  · simp [List.getD_eq_getElem?_getD, h]
theorem ints_set (s : List Nat) (e c : Nat) : (ints s).set e (c : Int) = ints (s.set e c) := by
  unfold ints
  rw [List.map_set]
  rfl
theorem tupAt_set (av : Nat → Nat → Int) (s : List Nat) (e c : Nat) : (tupAt av s).set e (av e c) = tupAt av (s.set e c) := by
  unfold tupAt
  apply List.ext_getElem
  · simp
  · intro i h1 h2
    simp only [List.length_set, List.length_map, List.length_range] at h1
    simp only [List.getElem_set, List.getElem_map, List.getElem_range]
    by_cases h : e = i
    · subst h
      rw [if_pos rfl]
      simp [List.getD_eq_getElem?_getD, h1]
    · rw [if_neg h]
      simp [List.getD_eq_getElem?_getD, List.getElem?_set_ne h]
structure TwoRows (W wc : World) (n : Nat) (a b : Value) : Prop where
  out : ∃ bs ba : Nat, a = .slice (some ⟨bs, 0, none⟩) n n ∧ b = .slice (some ⟨ba, 0, none⟩) n n ∧ bs ≠ ba ∧ W.heap.size ≤ bs ∧ W.heap.size ≤ ba ∧ Below W.heap.size W wc ∧
    (Kd.int .i64).R 3 wc W.heap.size (fun k => k = bs) a (List.replicate n 0) ∧ (Kd.int .i64).R 3 wc W.heap.size (fun k => k = ba) b (List.replicate n 0)
theorem row_made (W : World) (base n : Nat) (hb : base ≤ W.heap.size) (hn : n ≤ 4) : (Kd.int .i64).R 3 (W.alloc (.cells (madeCells #[.int .i64 0] n) 3)) base (fun k => k = W.heap.size) (.slice (some ⟨W.heap.size, 0, none⟩) n n) (List.replicate n 0) :=
  Kd.R_of_own (own_made_of' (enc := Value.int .i64) (d := (0 : Int)) W base 3 n hb (by omega)) (fun k h => by simpa [Value.ownBlock, eq_comm] using h)
theorem two_made (W : World) (n : Nat) (hn : n ≤ 4) :
    Below W.heap.size W ((W.alloc (.cells (madeCells #[.int .i64 0] n) 3)).alloc (.cells (madeCells #[.int .i64 0] n) 3)).drew ∧
    (Kd.int .i64).R 3 ((W.alloc (.cells (madeCells #[.int .i64 0] n) 3)).alloc (.cells (madeCells #[.int .i64 0] n) 3)).drew W.heap.size (fun k => k = W.heap.size) (.slice (some ⟨W.heap.size, 0, none⟩) n n) (List.replicate n 0) ∧
    (Kd.int .i64).R 3 ((W.alloc (.cells (madeCells #[.int .i64 0] n) 3)).alloc (.cells (madeCells #[.int .i64 0] n) 3)).drew W.heap.size (fun k => k = W.heap.size + 1) (.slice (some ⟨W.heap.size + 1, 0, none⟩) n n) (List.replicate n 0) := by
  refine ⟨(((Below.refl _ W).alloc (Nat.le_refl _) _).alloc (by simp) _).drew, ?_, ?_⟩
  · exact Kd.R_drew (Kd.R_alloc (row_made W _ n (Nat.le_refl _) hn) _)
  · have := row_made (W.alloc (.cells (madeCells #[.int .i64 0] n) 3)) W.heap.size n (by simp) hn
    rw [World.size_alloc] at this
    exact Kd.R_drew this
theorem twoRows_a (W : World) (n : Nat) (hn : n ≤ 4) : TwoRows W ((W.alloc (.cells (madeCells #[.int .i64 0] n) 3)).alloc (.cells (madeCells #[.int .i64 0] n) 3)).drew n (.slice (some ⟨W.heap.size, 0, none⟩) n n) (.slice (some ⟨W.heap.size + 1, 0, none⟩) n n) :=
  ⟨_, _, rfl, rfl, by omega, by omega, by omega, two_made W n hn⟩
theorem twoRows_b (W : World) (n : Nat) (hn : n ≤ 4) : TwoRows W ((W.alloc (.cells (madeCells #[.int .i64 0] n) 3)).alloc (.cells (madeCells #[.int .i64 0] n) 3)).drew n (.slice (some ⟨W.heap.size + 1, 0, none⟩) n n) (.slice (some ⟨W.heap.size, 0, none⟩) n n) :=
  ⟨_, _, rfl, rfl, by omega, by omega, by omega, (two_made W n hn).1, (two_made W n hn).2.2, (two_made W n hn).2.1⟩
set_option maxHeartbeats 16000000 in
set_option maxRecDepth 100000 in
theorem each1_steps (Bs Bd : Nat) (A0 : Option Addr) (c0 : Nat) (l0 : List Int) (a1_0 : Int) (A1_1 : Option Addr) (c1_1 : Nat) (l1_1 : List (List Int)) (A1_2 : Option Addr) (c1_2 : Nat) (l1_2 : List Int) (A1_3 : Option Addr) (c1_3 : Nat) (l1_3 : List Int) (A1_4 : Option Addr) (c1_4 : Nat) (l1_4 : List Int) (A1_5 : Option Addr) (c1_5 : Nat) (l1_5 : List Int) (S0 : Nat → Prop) (w : World)
    (hf : ∀ W, SameOn S0 w W → SelMem W Bs Bd A0 c0 l0 a1_0 A1_1 c1_1 l1_1 A1_2 c1_2 l1_2 A1_3 c1_3 l1_3 A1_4 c1_4 l1_4 A1_5 c1_5 l1_5)
    (hS0 : ∀ k, S0 k → k < w.heap.size) (hk : a1_0 ≠ 2) (N : List Nat) (hN : N.length = l0.length) (hN4 : N.length ≤ 4) (av : Nat → Nat → Int)
    (hline : ∀ d, d < N.length → ∀ k, k ≤ N.getD d 0 → ∃ x, space_line.f l0 a1_0 l1_1 l1_2 l1_3 l1_4 l1_5 d k = some (x, decide (k < N.getD d 0)) ∧ (k < N.getD d 0 → x = av d k))
    (hpos : ∀ d, d < N.length → 0 < N.getD d 0) (hNb : ∀ d, N.getD d 0 ≤ 1048576) (L : List (List Nat)) (hL : Odo N (List.replicate N.length 0) L) :
    Hands Try.prog 42 #[.pointer (some ⟨Bs, 0, none⟩), .pointer (some ⟨Bd, 0, none⟩)] RdI (L.map (tupAt av)) S0 w := by
  intro l n J W hW hJ hY h0
  have HF := Aside0.mk hf
  have HY := Aside0.mk hY
  have HJ0 := Aside0.mk h0
  have HW0 := Aside0.mk hW
  have HLI := Aside0.mk hline
  have HOD := Aside0.mk hL
  have HNP := Aside0.mk hpos
  have HNB := Aside0.mk hNb
  have HS0 := Aside0.mk hS0
  have HNL := Aside0.mk hN
  clear hf hY h0 hW hline hL hS0 hN hpos hNb
  have hfw := HF.out _ HW0.out
  have f0 := hfw.k0
  have fd := hfw.cd
  clear hfw
  have hu33 := Try.underlying33
  have hro : Fence.wide.round = none := rfl
  have hdp : Fence.wide.depth = none := rfl
  have hmix : Try.prog.follows .mixedOrders = true := by kernel_rfl
  have fdA : ∀ o, (W.alloc o).cell? ⟨Bd, 0, none⟩ = some (.slice A0 l0.length c0) := fun o => pw_cell_below ((Below.refl _ W).alloc (Nat.le_refl _) o) fd
  have hk2 : (a1_0 == 2) = false := by simpa using hk
  have hlen4 : l0.length ≤ 4 := by rw [← HNL.out]; exact hN4
  have hmk : ∀ W : World, (Instr.makeSlice 22 (.int .i64 (l0.length : Int)) (.int .i64 (l0.length : Int))).run Try.prog W = .ok (.slice (some ⟨W.heap.size, 0, none⟩) l0.length l0.length) (W.alloc (.cells (madeCells #[.int .i64 0] l0.length) 3)) := by
    intro W
    have := print_make_int (P := Try.prog) 22 3 (.int .i64 0) 8 Try.underlying22 (by kernel_rfl) rfl (by omega) l0.length (by omega) (by omega) W
    simpa using this
  refine callsIn_of_wp Try.func42 rfl trivial ?_ rfl
  simp only [Try.ntmps42, List.size_toArray, List.length_cons, List.length_nil, Nat.reduceAdd, Nat.reduceSub, Array.replicate_succ, Array.replicate_zero, List.push_toArray, List.append_toArray, List.nil_append, List.cons_append]
  refine wpIn_wide.2 (Go.wp_scope_straight ((wpIn_wide (n := n)).1 ?_))
  gi_upto_region 6 with (fail)
  gi_cut [6, 7] from 27 (fun a b wc => TwoRows W wc l0.length a b)
  case first =>
    gi_region_with_o (fail)
    all_goals
      gi_wp2
      gi_meet
      first | exact twoRows_a _ _ hlen4 | exact twoRows_b _ _ hlen4
  case rest =>
    obtain ⟨bs, ba, rfl, rfl, hne, hbs, hba, hbel, hrs, hra⟩ := hcut.out
    clear hcut
    have hbsS : ¬ S0 bs := fun h => by have := HS0.out _ h; have := HW0.out.1; omega
    have hbaS : ¬ S0 ba := fun h => by have := HS0.out _ h; have := HW0.out.1; omega
    have HNS := Aside0.mk hbsS
    have HNA := Aside0.mk hbaS
    have HJ1 : Aside0 (J (fun k => S0 k ∨ (k = bs ∨ k = ba)) [] wc) := ⟨hJ.step _ _ _ _ (hJ.more _ (fun k => k = bs ∨ k = ba) _ _ HJ0.out (fun k h => by omega)) (SameOn.of_below hbel)⟩
    have HS1 : Aside0 (SameOn S0 w wc) := ⟨HW0.out.trans (SameOn.of_below hbel)⟩
    have HRS := Aside0.mk hrs
    have HRA : Aside0 ((Kd.int .i64).R 3 wc W.heap.size (fun k => k = ba) (.slice (some ⟨ba, 0, none⟩) l0.length l0.length) (initAt av l0.length 0)) := ⟨by rw [initAt_zero]; exact hra⟩
    have HB := Aside0.mk hbs
    clear hrs hra hbel hbsS hbaS f0 fd fdA HJ0 HW0
    have hcd := (HF.out _ HS1.out).cd
    gi_wp2
    clear hcd
    gi_loopw [35] (fun i wr => ∃ k : Nat, k ≤ l0.length ∧ i = .int .i64 k ∧ Aside0 (J (fun k => S0 k ∨ (k = bs ∨ k = ba)) [] wr) ∧ Aside0 (SameOn S0 w wr) ∧
      Aside0 ((Kd.int .i64).R 3 wr W.heap.size (fun k => k = bs) (.slice (some ⟨bs, 0, none⟩) l0.length l0.length) (List.replicate l0.length 0)) ∧
      Aside0 ((Kd.int .i64).R 3 wr W.heap.size (fun k => k = ba) (.slice (some ⟨ba, 0, none⟩) l0.length l0.length) (initAt av l0.length k)))
      (fun i _ => l0.length - (intOf i).toNat)
    case atStart => exact ⟨0, Nat.zero_le _, rfl, HJ1, HS1, HRS, HRA⟩
    case round =>
      clear HJ1 HS1 HRS HRA
      obtain ⟨k, hk, rfl, HJ1, HS1, HRS, HRA⟩ := hrel
      by_cases hlt : k < l0.length
      · obtain ⟨x, hx1, hx2⟩ := HLI.out k (by rw [HNL.out]; exact hlt) 0 (Nat.zero_le _)
        have hpos := HNP.out k (by rw [HNL.out]; exact hlt)
        obtain rfl := hx2 hpos
        have HX := Aside0.mk hx1
        clear hx1 hx2 hpos
        have HM := Aside0.mk (HF.out _ HS1.out)
        have hcd := HM.out.cd
        have hk0 := HM.out.k0
        have hk1 := HM.out.k1
        have hk2 := HM.out.k2
        have hk3 := HM.out.k3
        have hk4 := HM.out.k4
        have hk5 := HM.out.k5
        gi_wp2_with (refine ⟨trivial, ?_⟩; gi_at_call 43; refine (callsIn_wide.2 (space_line.calls A0 c0 l0 a1_0 A1_1 c1_1 l1_1 A1_2 c1_2 l1_2 A1_3 c1_3 l1_3 A1_4 c1_4 l1_4 A1_5 c1_5 l1_5 k 0 _ _ _ HM.out.r0 HM.out.b0 HM.out.r1 HM.out.b1 HM.out.r2 HM.out.b2 HM.out.r3 HM.out.b3 HM.out.r4 HM.out.b4 HM.out.r5 HM.out.b5 HX.out)).mono ?_; rintro e w' ⟨rfl, hb⟩; have hcA := Kd.R_celln (0 : Int) (Kd.R_below HRA.out hb) k (by omega) (by omega); simp only [Int.toNat_natCast] at hcA; obtain ⟨hcA1, hcA2⟩ := hcA)
        go_roundw
        case rel =>
          have hb1 := hb
          refine ⟨k + 1, by omega, by simp, ⟨hJ.step _ _ _ _ (hJ.step _ _ _ _ HJ1.out (SameOn.of_below hb1)) (SameOn.setCell _ _ _ (fun h => h.elim (fun h => h (.inr (.inr rfl))) HNA.out))⟩, ⟨(HS1.out.trans (SameOn.of_below hb1)).trans (SameOn.setCell _ _ _ HNA.out)⟩, ⟨Kd.R_far (Kd.R_below HRS.out hb1) (fun k h => ?_) _⟩, ⟨?_⟩⟩
          · subst h; exact hne
          · have := Kd.R_putn (Kd.R_below HRA.out hb1) k (av k 0)
            rw [Int.toNat_natCast, initAt_succ _ _ _ hlt] at this
            exact this
        case measure => simp [intOf]; omega
      · obtain rfl : k = l0.length := by omega
        have HRS2 : Aside0 ((Kd.int .i64).R 3 wr W.heap.size (fun k => k = bs) (.slice (some ⟨bs, 0, none⟩) l0.length l0.length) (ints (List.replicate l0.length 0))) := ⟨by rw [ints_zero]; exact HRS.out⟩
        have HRA2 : Aside0 ((Kd.int .i64).R 3 wr W.heap.size (fun k => k = ba) (.slice (some ⟨ba, 0, none⟩) l0.length l0.length) (tupAt av (List.replicate l0.length 0))) := ⟨by rw [← initAt_all]; exact HRA.out⟩
        have HOD2 : Aside0 (Odo N (List.replicate l0.length 0) L) := ⟨by rw [← HNL.out]; exact HOD.out⟩
        have HLT2 : Aside0 (∀ d, d < l0.length → (List.replicate l0.length 0).getD d 0 < N.getD d 0) := ⟨fun d hd => by
          have := HNP.out d (by rw [HNL.out]; exact hd)
          simpa [List.getD_eq_getElem?_getD, hd] using this⟩
        clear HRS HRA HOD hk
        gi_wp2
        refine wpIn_label ?_
        gi_wp2
        gi_loopg [9] L.length (fun g _ wq => ∃ (pre : List (List Nat)) (s : List Nat) (rest : List (List Nat)), Aside0 (L = pre ++ rest ∧ rest.length = g) ∧ Aside0 (Odo N s rest) ∧ Aside0 (s.length = l0.length) ∧ Aside0 (∀ d, d < l0.length → s.getD d 0 < N.getD d 0) ∧
          Aside0 (J (fun k => S0 k ∨ (k = bs ∨ k = ba)) (pre.map (tupAt av)) wq) ∧ Aside0 (SameOn S0 w wq) ∧
          Aside0 ((Kd.int .i64).R 3 wq W.heap.size (fun k => k = bs) (.slice (some ⟨bs, 0, none⟩) l0.length l0.length) (ints s)) ∧
          Aside0 ((Kd.int .i64).R 3 wq W.heap.size (fun k => k = ba) (.slice (some ⟨ba, 0, none⟩) l0.length l0.length) (tupAt av s)))
        case atStart => exact ⟨[], _, L, ⟨rfl, rfl⟩, HOD2, ⟨by simp⟩, HLT2, HJ1, HS1, HRS2, HRA2⟩
        case round =>
          clear HRS2 HRA2 HJ1 HS1 HOD2 HLT2
          obtain ⟨pre, s, rest, HL, HO, HSL, HLT, HJ1, HS1, HRS, HRA⟩ := hrel
          have HRD : Aside0 (RdI (tupAt av s) (.slice (some ⟨ba, 0, none⟩) l0.length l0.length) wr) := ⟨by
            obtain ⟨h1, h2, h3⟩ := Kd.R_reads' HRA.out
            exact ⟨_, _, by rw [← h1], by omega, h3⟩⟩
          have HSZ : Aside0 (∀ k, (S0 k ∨ (k = bs ∨ k = ba)) → k < wr.heap.size) := ⟨fun k h => by
            rcases h with h | h | h
            · exact Nat.lt_of_lt_of_le (HS0.out k h) HS1.out.1
            · exact Kd.R_lt HRS.out _ (by rw [h]; rfl)
            · exact Kd.R_lt HRA.out _ (by rw [h]; rfl)⟩
          obtain ⟨fn, tmps, assign, body, hy, hR⟩ := HY.out (fun k => S0 k ∨ (k = bs ∨ k = ba)) (pre.map (tupAt av)) (tupAt av s) _ wr HJ1.out (fun _ h => Or.inl h) HSZ.out (by have h1 := HL.out.1; cases HO.out <;> (rw [h1]; simp)) HRD.out
          clear HSZ
          gi_wp2
          refine hR.mono ?_
          rintro e W3 ⟨rfl, hJ3, hs3⟩
          have HJ3 : Aside0 (J (fun k => S0 k ∨ (k = bs ∨ k = ba)) ((pre ++ [s]).map (tupAt av)) W3) := ⟨by rw [List.map_append]; exact hJ3⟩
          have HS3 : Aside0 (SameOn S0 w W3) := ⟨HS1.out.trans (hs3.mono (fun k h => .inl h))⟩
          have HRS3 : Aside0 ((Kd.int .i64).R 3 W3 W.heap.size (fun k => k = bs) (.slice (some ⟨bs, 0, none⟩) l0.length l0.length) (ints s)) := ⟨Kd.R_step HRS.out (fun k hk hlt => hs3.2 k (.inr (.inl hk)) hlt)⟩
          have HRA3 : Aside0 ((Kd.int .i64).R 3 W3 W.heap.size (fun k => k = ba) (.slice (some ⟨ba, 0, none⟩) l0.length l0.length) (tupAt av s)) := ⟨Kd.R_step HRA.out (fun k hk hlt => hs3.2 k (.inr (.inr hk)) hlt)⟩
          clear HRS HRA HJ1 HS1 hJ3 hs3 hR hy HRD
          have hcd := (HF.out _ HS3.out).cd
          gi_wp2
          clear hcd
          gi_loopw [9] (fun v wq => ∃ (d : Int) (e : Nat) (s' : List Nat), v = .int .i64 d ∧ Aside0 (d = (e : Int) - 1) ∧ e ≤ l0.length ∧ Aside0 (odoNext N s l0.length = odoNext N s' e) ∧ Aside0 (s'.length = l0.length) ∧ Aside0 (∀ d, d < l0.length → s'.getD d 0 < N.getD d 0) ∧
            Aside0 (J (fun k => S0 k ∨ (k = bs ∨ k = ba)) ((pre ++ [s]).map (tupAt av)) wq) ∧ Aside0 (SameOn S0 w wq) ∧
            Aside0 ((Kd.int .i64).R 3 wq W.heap.size (fun k => k = bs) (.slice (some ⟨bs, 0, none⟩) l0.length l0.length) (ints s')) ∧
            Aside0 ((Kd.int .i64).R 3 wq W.heap.size (fun k => k = ba) (.slice (some ⟨ba, 0, none⟩) l0.length l0.length) (tupAt av s'))) (fun v _ => (intOf v + 1).toNat)
          case atStart => exact ⟨_, l0.length, s, rfl, ⟨rfl⟩, Nat.le_refl _, ⟨rfl⟩, HSL, HLT, HJ3, HS3, HRS3, HRA3⟩
          case round =>
            clear HRS3 HRA3 HJ3 HS3
            obtain ⟨d, e, s', rfl, HD, he, HE, HSL', HLT', HJ4, HS4, HRS, HRA⟩ := hrel
            cases e with
            | zero =>
              obtain rfl : d = -1 := by have := HD.out; omega
              gi_wp2
              rw [Exit.noGoto_ret]
              refine bodyPost_ret (results_none rfl _ _ _) rfl ⟨⟨_, rfl⟩, (fun k => S0 k ∨ (k = bs ∨ k = ba)), ?_⟩
              have h1 : odoNext N s N.length = none := by rw [HNL.out, HE.out]; rfl
              have h2 : rest = [s] := by
                cases HO.out with
                | last _ => rfl
                | more h _ => rw [h1] at h; cases h
              have h3 := HL.out.1
              rw [h2] at h3
              rw [h3]
              exact HJ4.out
            | succ e =>
              obtain rfl : d = (e : Int) := by have := HD.out; omega
              have hlt : e < l0.length := by omega
              have hcS := Kd.R_celln (0 : Int) HRS.out e (by omega) (by omega)
              simp only [Int.toNat_natCast] at hcS
              obtain ⟨hcS1, hcS2⟩ := hcS
              rw [rdOf_ints] at hcS1
              have HC := Aside0.mk (HLT'.out e hlt)
              have HP := Aside0.mk (ints_set s' e (s'.getD e 0 + 1))
              have HP0 := Aside0.mk (ints_set s' e 0)
              have HQ := Aside0.mk (tupAt_set av s' e (s'.getD e 0 + 1))
              have HQ0 := Aside0.mk (tupAt_set av s' e 0)
              have HD' : Aside0 (odoNext N s l0.length = if s'.getD e 0 + 1 < N.getD e 0 then some (s'.set e (s'.getD e 0 + 1)) else odoNext N (s'.set e 0) e) := ⟨by rw [HE.out]; rfl⟩
              generalize s'.getD e 0 = c at hcS1 HC HP HQ HD'
              have hcb : c ≤ 1048576 := Nat.le_trans (Nat.le_of_lt HC.out) (HNB.out e)
              have HRS2 : Aside0 ((Kd.int .i64).R 3 (wr.setCell ⟨bs, e, none⟩ (.int .i64 ((c : Int) + 1))) W.heap.size (fun k => k = bs) (.slice (some ⟨bs, 0, none⟩) l0.length l0.length) (ints (s'.set e (c + 1)))) := ⟨by
                have := Kd.R_putn HRS.out e ((c : Int) + 1)
                rw [Int.toNat_natCast] at this
                rw [← HP.out]
                exact this⟩
              have HRA2 : Aside0 ((Kd.int .i64).R 3 (wr.setCell ⟨bs, e, none⟩ (.int .i64 ((c : Int) + 1))) W.heap.size (fun k => k = ba) (.slice (some ⟨ba, 0, none⟩) l0.length l0.length) (tupAt av s')) := ⟨Kd.R_far HRA.out (fun k h => by subst h; exact fun h => hne h.symm) _⟩
              have HJ5 : Aside0 (J (fun k => S0 k ∨ (k = bs ∨ k = ba)) ((pre ++ [s]).map (tupAt av)) (wr.setCell ⟨bs, e, none⟩ (.int .i64 ((c : Int) + 1)))) := ⟨hJ.step _ _ _ _ HJ4.out (SameOn.setCell _ _ _ (fun h => h.elim (fun h => h (.inr (.inl rfl))) HNS.out))⟩
              have HS5 : Aside0 (SameOn S0 w (wr.setCell ⟨bs, e, none⟩ (.int .i64 ((c : Int) + 1)))) := ⟨HS4.out.trans (SameOn.setCell _ _ _ HNS.out)⟩
              gi_upto_region 17 with (fail)
              generalize wr.setCell ⟨bs, e, none⟩ (.int .i64 ((c : Int) + 1)) = w2 at HRS2 HRA2 HJ5 HS5 ⊢
              clear hcS1 hcS2 HRS HRA HJ4 HS4
              have HM := Aside0.mk (HF.out _ HS5.out)
              have hcd := HM.out.cd
              have hk0 := HM.out.k0
              have hk1 := HM.out.k1
              have hk2 := HM.out.k2
              have hk3 := HM.out.k3
              have hk4 := HM.out.k4
              have hk5 := HM.out.k5
              have hcS := Kd.R_celln (0 : Int) HRS2.out e (by omega) (by omega)
              simp only [Int.toNat_natCast] at hcS
              obtain ⟨hcS1, hcS2⟩ := hcS
              rw [rdOf_ints, show (s'.set e (c + 1)).getD e 0 = c + 1 from by simp [List.getD_eq_getElem?_getD, HSL'.out, hlt]] at hcS1
              have hcS3 : w2.cell? ⟨bs, e, none⟩ = some (.int .i64 ((c : Int) + 1)) := hcS1
              clear hcS1 hcS2
              by_cases hn : c + 1 < N.getD e 0
              · obtain ⟨x, hx1, hx2⟩ := HLI.out e (by rw [HNL.out]; exact hlt) (c + 1) (by omega)
                obtain rfl := hx2 hn
                rw [decide_eq_true hn] at hx1
                have HX : Aside0 (space_line.f l0 a1_0 l1_1 l1_2 l1_3 l1_4 l1_5 e ((c : Int) + 1) = some (av e (c + 1), true)) := ⟨hx1⟩
                clear hx1 hx2
                gi_cut [10, 11] from 65 (fun a b wq => a = .int .i64 (av e (c + 1)) ∧ b = .bool true ∧ Aside0 (Below w2.heap.size w2 wq))
                case first =>
                  gi_region_with_o (refine ⟨trivial, ?_⟩; gi_at_call 43; refine (callsIn_wide.2 (space_line.calls A0 c0 l0 a1_0 A1_1 c1_1 l1_1 A1_2 c1_2 l1_2 A1_3 c1_3 l1_3 A1_4 c1_4 l1_4 A1_5 c1_5 l1_5 e ((c : Int) + 1) _ _ _ (by first | exact HM.out.r0 | exact Kd.C_drew HM.out.r0) HM.out.b0 (by first | exact HM.out.r1 | exact Kd.C_drew HM.out.r1) HM.out.b1 (by first | exact HM.out.r2 | exact Kd.C_drew HM.out.r2) HM.out.b2 (by first | exact HM.out.r3 | exact Kd.C_drew HM.out.r3) HM.out.b3 (by first | exact HM.out.r4 | exact Kd.C_drew HM.out.r4) HM.out.b4 (by first | exact HM.out.r5 | exact Kd.C_drew HM.out.r5) HM.out.b5 HX.out)).mono ?_; rintro e_ w' ⟨rfl, hb⟩)
                  all_goals
                    gi_wp2
                    gi_meet
                    exact ⟨rfl, rfl, ⟨by first | exact hb | exact hb.drew | exact (Below.refl _ _).drew.trans hb | exact ((Below.refl _ _).drew.trans hb).drew⟩⟩
                case rest =>
                  obtain ⟨rfl, rfl, HBQ⟩ := hcut
                  clear hcd hk0 hk1 hk2 hk3 hk4 hk5 hcS3
                  have HN1 : Aside0 (odoNext N s N.length = some (s'.set e (c + 1))) := ⟨by rw [HNL.out, HD'.out, if_pos hn]⟩
                  have HRS3 : Aside0 ((Kd.int .i64).R 3 wc W.heap.size (fun k => k = bs) (.slice (some ⟨bs, 0, none⟩) l0.length l0.length) (ints (s'.set e (c + 1)))) := ⟨Kd.R_below HRS2.out HBQ.out⟩
                  have HRA3 : Aside0 ((Kd.int .i64).R 3 wc W.heap.size (fun k => k = ba) (.slice (some ⟨ba, 0, none⟩) l0.length l0.length) (tupAt av s')) := ⟨Kd.R_below HRA2.out HBQ.out⟩
                  have HJ6 : Aside0 (J (fun k => S0 k ∨ (k = bs ∨ k = ba)) ((pre ++ [s]).map (tupAt av)) wc) := ⟨hJ.step _ _ _ _ HJ5.out (SameOn.of_below HBQ.out)⟩
                  have HS6 : Aside0 (SameOn S0 w wc) := ⟨HS5.out.trans (SameOn.of_below HBQ.out)⟩
                  clear HRS2 HRA2 HJ5 HS5 HM HBQ HX
                  have hcA := Kd.R_celln (0 : Int) HRA3.out e (by omega) (by omega)
                  simp only [Int.toNat_natCast] at hcA
                  obtain ⟨hcA1, hcA2⟩ := hcA
                  obtain ⟨l', HR⟩ : ∃ l', Aside0 (rest = s :: l' ∧ Odo N (s'.set e (c + 1)) l') := by
                    cases HO.out with
                    | last h => rw [HN1.out] at h; cases h
                    | more h g =>
                      rw [HN1.out] at h
                      cases h
                      exact ⟨_, ⟨rfl, g⟩⟩
                  gi_wp2
                  gi_roundg l'.length
                  case measure =>
                    have h1 := HL.out.2
                    rw [HR.out.1, List.length_cons] at h1
                    omega
                  case rel =>
                    refine ⟨pre ++ [s], s'.set e (c + 1), l', ⟨by have h1 := HL.out.1; rw [HR.out.1] at h1; rw [h1]; simp, rfl⟩, ⟨HR.out.2⟩, ⟨by rw [List.length_set]; exact HSL'.out⟩, ⟨fun d hd => ?_⟩, ⟨hJ.step _ _ _ _ HJ6.out (SameOn.setCell _ _ _ (fun h => h.elim (fun h => h (.inr (.inr rfl))) HNA.out))⟩, ⟨HS6.out.trans (SameOn.setCell _ _ _ HNA.out)⟩, ⟨Kd.R_far HRS3.out (fun k h => by subst h; exact hne) _⟩, ⟨?_⟩⟩
                    · by_cases h : e = d
                      · subst h; simpa [List.getD_eq_getElem?_getD, HSL'.out, hlt] using hn
                      · have := HLT'.out d hd
                        simpa [List.getD_eq_getElem?_getD, List.getElem?_set_ne h] using this
                    · have := Kd.R_putn HRA3.out e (av e (c + 1))
                      rw [Int.toNat_natCast, HQ.out] at this
                      exact this
              · obtain ⟨x, hx1, _⟩ := HLI.out e (by rw [HNL.out]; exact hlt) (c + 1) (by have := HC.out; omega)
                rw [decide_eq_false hn] at hx1
                have HX : Aside0 (space_line.f l0 a1_0 l1_1 l1_2 l1_3 l1_4 l1_5 e ((c : Int) + 1) = some (x, false)) := ⟨hx1⟩
                clear hx1
                gi_cut [10, 11] from 65 (fun a b wq => a = .int .i64 x ∧ b = .bool false ∧ Aside0 (Below w2.heap.size w2 wq))
                case first =>
                  gi_region_with_o (refine ⟨trivial, ?_⟩; gi_at_call 43; refine (callsIn_wide.2 (space_line.calls A0 c0 l0 a1_0 A1_1 c1_1 l1_1 A1_2 c1_2 l1_2 A1_3 c1_3 l1_3 A1_4 c1_4 l1_4 A1_5 c1_5 l1_5 e ((c : Int) + 1) _ _ _ (by first | exact HM.out.r0 | exact Kd.C_drew HM.out.r0) HM.out.b0 (by first | exact HM.out.r1 | exact Kd.C_drew HM.out.r1) HM.out.b1 (by first | exact HM.out.r2 | exact Kd.C_drew HM.out.r2) HM.out.b2 (by first | exact HM.out.r3 | exact Kd.C_drew HM.out.r3) HM.out.b3 (by first | exact HM.out.r4 | exact Kd.C_drew HM.out.r4) HM.out.b4 (by first | exact HM.out.r5 | exact Kd.C_drew HM.out.r5) HM.out.b5 HX.out)).mono ?_; rintro e_ w' ⟨rfl, hb⟩)
                  all_goals
                    gi_wp2
                    gi_meet
                    exact ⟨rfl, rfl, ⟨by first | exact hb | exact hb.drew | exact (Below.refl _ _).drew.trans hb | exact ((Below.refl _ _).drew.trans hb).drew⟩⟩
                case rest =>
                  obtain ⟨rfl, rfl, HBQ⟩ := hcut
                  clear hcd hk0 hk1 hk2 hk3 hk4 hk5 hcS3
                  have HN1 : Aside0 (odoNext N s l0.length = odoNext N (s'.set e 0) e) := ⟨by rw [HD'.out, if_neg hn]⟩
                  have HRS3 : Aside0 ((Kd.int .i64).R 3 wc W.heap.size (fun k => k = bs) (.slice (some ⟨bs, 0, none⟩) l0.length l0.length) (ints (s'.set e (c + 1)))) := ⟨Kd.R_below HRS2.out HBQ.out⟩
                  have HRA3 : Aside0 ((Kd.int .i64).R 3 wc W.heap.size (fun k => k = ba) (.slice (some ⟨ba, 0, none⟩) l0.length l0.length) (tupAt av s')) := ⟨Kd.R_below HRA2.out HBQ.out⟩
                  have HJ6 : Aside0 (J (fun k => S0 k ∨ (k = bs ∨ k = ba)) ((pre ++ [s]).map (tupAt av)) wc) := ⟨hJ.step _ _ _ _ HJ5.out (SameOn.of_below HBQ.out)⟩
                  have HS6 : Aside0 (SameOn S0 w wc) := ⟨HS5.out.trans (SameOn.of_below HBQ.out)⟩
                  clear HRS2 HRA2 HJ5 HS5 HM HBQ HX
                  have hcA := Kd.R_celln (0 : Int) HRS3.out e (by omega) (by omega)
                  simp only [Int.toNat_natCast] at hcA
                  obtain ⟨hcA1, hcA2⟩ := hcA
                  have HRS4 : Aside0 ((Kd.int .i64).R 3 (wc.setCell ⟨bs, e, none⟩ (.int .i64 0)) W.heap.size (fun k => k = bs) (.slice (some ⟨bs, 0, none⟩) l0.length l0.length) (ints (s'.set e 0))) := ⟨by
                    have := Kd.R_putn HRS3.out e 0
                    rw [Int.toNat_natCast, ← HP.out, List.set_set] at this
                    rw [← HP0.out]
                    exact this⟩
                  have HRA4 : Aside0 ((Kd.int .i64).R 3 (wc.setCell ⟨bs, e, none⟩ (.int .i64 0)) W.heap.size (fun k => k = ba) (.slice (some ⟨ba, 0, none⟩) l0.length l0.length) (tupAt av s')) := ⟨Kd.R_far HRA3.out (fun k h => by subst h; exact fun h => hne h.symm) _⟩
                  have HJ7 : Aside0 (J (fun k => S0 k ∨ (k = bs ∨ k = ba)) ((pre ++ [s]).map (tupAt av)) (wc.setCell ⟨bs, e, none⟩ (.int .i64 0))) := ⟨hJ.step _ _ _ _ HJ6.out (SameOn.setCell _ _ _ (fun h => h.elim (fun h => h (.inr (.inl rfl))) HNS.out))⟩
                  have HS7 : Aside0 (SameOn S0 w (wc.setCell ⟨bs, e, none⟩ (.int .i64 0))) := ⟨HS6.out.trans (SameOn.setCell _ _ _ HNS.out)⟩
                  have HM := Aside0.mk (HF.out _ HS7.out)
                  obtain ⟨x0, hx1, hx2⟩ := HLI.out e (by rw [HNL.out]; exact hlt) 0 (Nat.zero_le _)
                  have hp0 := HNP.out e (by rw [HNL.out]; exact hlt)
                  obtain rfl := hx2 hp0
                  rw [decide_eq_true hp0] at hx1
                  have HX : Aside0 (space_line.f l0 a1_0 l1_1 l1_2 l1_3 l1_4 l1_5 e 0 = some (av e 0, true)) := ⟨hx1⟩
                  clear hx1 hx2
                  have hcd := HM.out.cd
                  have hk0 := HM.out.k0
                  have hk1 := HM.out.k1
                  have hk2 := HM.out.k2
                  have hk3 := HM.out.k3
                  have hk4 := HM.out.k4
                  have hk5 := HM.out.k5
                  gi_wp2_with (refine ⟨trivial, ?_⟩; gi_at_call 43; refine (callsIn_wide.2 (space_line.calls A0 c0 l0 a1_0 A1_1 c1_1 l1_1 A1_2 c1_2 l1_2 A1_3 c1_3 l1_3 A1_4 c1_4 l1_4 A1_5 c1_5 l1_5 e (0) _ _ _ (by first | exact HM.out.r0 | exact Kd.C_drew HM.out.r0) HM.out.b0 (by first | exact HM.out.r1 | exact Kd.C_drew HM.out.r1) HM.out.b1 (by first | exact HM.out.r2 | exact Kd.C_drew HM.out.r2) HM.out.b2 (by first | exact HM.out.r3 | exact Kd.C_drew HM.out.r3) HM.out.b3 (by first | exact HM.out.r4 | exact Kd.C_drew HM.out.r4) HM.out.b4 (by first | exact HM.out.r5 | exact Kd.C_drew HM.out.r5) HM.out.b5 HX.out)).mono ?_; rintro e_ w' ⟨rfl, hb⟩; have hcB := Kd.R_celln (0 : Int) (Kd.R_below HRA4.out hb) e (by omega) (by omega); simp only [Int.toNat_natCast] at hcB; obtain ⟨hcB1, hcB2⟩ := hcB)
                  go_roundw
                  case rel =>
                    refine ⟨(e : Int) - 1, e, s'.set e 0, rfl, ⟨rfl⟩, by omega, ⟨HN1.out⟩, ⟨by rw [List.length_set]; exact HSL'.out⟩, ⟨fun d hd => ?_⟩, ⟨hJ.step _ _ _ _ (hJ.step _ _ _ _ HJ7.out (SameOn.of_below hb)) (SameOn.setCell _ _ _ (fun h => h.elim (fun h => h (.inr (.inr rfl))) HNA.out))⟩, ⟨(HS7.out.trans (SameOn.of_below hb)).trans (SameOn.setCell _ _ _ HNA.out)⟩, ⟨Kd.R_far (Kd.R_below HRS4.out hb) (fun k h => by subst h; exact hne) _⟩, ⟨?_⟩⟩
                    · by_cases h : e = d
                      · subst h; simpa [List.getD_eq_getElem?_getD, HSL'.out, hlt] using hp0
                      · have := HLT'.out d hd
                        simpa [List.getD_eq_getElem?_getD, List.getElem?_set_ne h] using this
                    · have := Kd.R_putn (Kd.R_below HRA4.out hb) e (av e 0)
                      rw [Int.toNat_natCast, HQ0.out] at this
                      exact this
                  case measure => simp [intOf]
end
end Go.Proofs.Ytjbjofmcmjojlaa.Wk
end
section
namespace Go.Proofs.Ytjbjofmcmjojlaa.Wk
open Go.RowKit Go.Proofs.YtjbjofmcmjojlaaW.PrintWords Go.Proofs.YtjbjofmcmjojlaaW.PrintLast Go.Proofs.YtjbjofmcmjojlaaW.PrintMore
attribute [local go_sem] max2_int min2_int max_two min_two max_three min_three max_four min_four
set_option linter.unusedVariables false
set_option linter.unusedSimpArgs false
section
open Go.Proofs.YtjbjofmcmjojlaaQ
attribute [local go_sem] Oper.semAt_some
theorem V_of_ints {e base c : Nat} {W : World} {A : Option Addr} {xs : List Int} (h : (Kd.int .i64).C W A xs.length xs) (hl : xs.length ≤ c) : (Kd.int .i64).V e W base (fun _ => True) (.slice A xs.length c) xs := by
  refine ⟨A, c, rfl, hl, fun W' hW => ?_⟩
  have hr := Kd.reads_of_C (d := (0 : Int)) (h1 := fun _ => rfl) h
  refine Kd.C_of_reads (d := (0 : Int)) (h1 := fun _ => rfl) ⟨hr.1, hr.2.1, fun hn => ?_⟩
  obtain ⟨ad, e1, hc⟩ := hr.2.2 hn
  refine ⟨ad, e1, fun j hj => ?_⟩
  have hcj := hc j hj
  have hlt := World.block_lt_of_cell? W _ hcj
  unfold World.cell? at hcj ⊢
  rw [hW _ trivial hlt]
  exact hcj
set_option maxHeartbeats 1000000 in
theorem space_each (A0 : Option Addr) (c0 : Nat) (l0 : List Int) (a1_0 : Int) (A1_1 : Option Addr) (c1_1 : Nat) (l1_1 : List (List Int)) (A1_2 : Option Addr) (c1_2 : Nat) (l1_2 : List Int) (A1_3 : Option Addr) (c1_3 : Nat) (l1_3 : List Int) (A1_4 : Option Addr) (c1_4 : Nat) (l1_4 : List Int) (A1_5 : Option Addr) (c1_5 : Nat) (l1_5 : List Int) (w : World) :
    Calls Try.prog 31 #[.slice A0 l0.length c0, .agg #[.int .i64 a1_0, .slice A1_1 l1_1.length c1_1, .slice A1_2 l1_2.length c1_2, .slice A1_3 l1_3.length c1_3, .slice A1_4 l1_4.length c1_4, .slice A1_5 l1_5.length c1_5]] w
      fun e w' => e = .returned (.func (.func 42) #[] #[.pointer (some ⟨w.heap.size + 1, 0, none⟩), .pointer (some ⟨w.heap.size, 0, none⟩)]) ∧
        w' = (w.alloc (.cells #[.slice A0 l0.length c0] 22)).alloc (.cells #[.int .i64 a1_0, .slice A1_1 l1_1.length c1_1, .slice A1_2 l1_2.length c1_2, .slice A1_3 l1_3.length c1_3, .slice A1_4 l1_4.length c1_4, .slice A1_5 l1_5.length c1_5] 33) := by
  have hu33 := Try.underlying33
  go_enter Try.func31, Try.ntmps31
  go_wp2
  go_ret
  exact ⟨rfl, rfl⟩
theorem selMem_of (A0 : Option Addr) (c0 : Nat) (l0 : List Int) (a1_0 : Int) (A1_1 : Option Addr) (c1_1 : Nat) (l1_1 : List (List Int)) (A1_2 : Option Addr) (c1_2 : Nat) (l1_2 : List Int) (A1_3 : Option Addr) (c1_3 : Nat) (l1_3 : List Int) (A1_4 : Option Addr) (c1_4 : Nat) (l1_4 : List Int) (A1_5 : Option Addr) (c1_5 : Nat) (l1_5 : List Int) (w W : World) (Bs Bd : Nat) (hw : Below w.heap.size w W)
    (hbd : W.heap[Bd]? = some (.cells #[.slice A0 l0.length c0] 22 (0, 0))) (hbs : W.heap[Bs]? = some (.cells #[.int .i64 a1_0, .slice A1_1 l1_1.length c1_1, .slice A1_2 l1_2.length c1_2, .slice A1_3 l1_3.length c1_3, .slice A1_4 l1_4.length c1_4, .slice A1_5 l1_5.length c1_5] 33 (0, 0))) (hr0 : Kd.C (Kd.int .i64) w A0 l0.length l0) (hc0 : l0.length ≤ c0) (hr1_1 : Kd.C (Kd.slice 3 (Kd.int .i64)) w A1_1 l1_1.length l1_1) (hc1_1 : l1_1.length ≤ c1_1) (hr1_2 : Kd.C (Kd.int .i64) w A1_2 l1_2.length l1_2) (hc1_2 : l1_2.length ≤ c1_2) (hr1_3 : Kd.C (Kd.int .i64) w A1_3 l1_3.length l1_3) (hc1_3 : l1_3.length ≤ c1_3) (hr1_4 : Kd.C (Kd.int .i64) w A1_4 l1_4.length l1_4) (hc1_4 : l1_4.length ≤ c1_4) (hr1_5 : Kd.C (Kd.int .i64) w A1_5 l1_5.length l1_5) (hc1_5 : l1_5.length ≤ c1_5) :
    SelMem W Bs Bd A0 c0 l0 a1_0 A1_1 c1_1 l1_1 A1_2 c1_2 l1_2 A1_3 c1_3 l1_3 A1_4 c1_4 l1_4 A1_5 c1_5 l1_5 where
  cd := by unfold World.cell?; rw [hbd]; rfl
  k0 := by unfold World.cell?; rw [hbs]; rfl
  k1 := by unfold World.cell?; rw [hbs]; rfl
  k2 := by unfold World.cell?; rw [hbs]; rfl
  k3 := by unfold World.cell?; rw [hbs]; rfl
  k4 := by unfold World.cell?; rw [hbs]; rfl
  k5 := by unfold World.cell?; rw [hbs]; rfl
  r0 := Kd.C_below hr0 hw
  r1 := Kd.C_below hr1_1 hw
  r2 := Kd.C_below hr1_2 hw
  r3 := Kd.C_below hr1_3 hw
  r4 := Kd.C_below hr1_4 hw
  r5 := Kd.C_below hr1_5 hw
  b0 := hc0
  b1 := hc1_1
  b2 := hc1_2
  b3 := hc1_3
  b4 := hc1_4
  b5 := hc1_5
end
end Go.Proofs.Ytjbjofmcmjojlaa.Wk
end
