/- A range over a function whose iterator hands its loop body a place in memory that it writes between two rounds: the law of the statement, for bodies that only go on. The blocks are parted in those that the iterator leans on or owns (S) and all others. No condition. -/
import Derived.RangeFuncNested
import Derived.RangeFuncBound
import Derived.RangeFuncCalls
import Derived.RangeFuncLeaves
import Derived.WalkKit
namespace Go.Proofs.YtjbjofmcmjojlaaQ
open Go Go.RowKit

/-- Blocks S lie as they lay; the streams are as they were. -/
structure SameOn (S : Nat → Prop) (A B : World) : Prop where
  size : A.heap.size ≤ B.heap.size
  same : ∀ k, S k → k < A.heap.size → B.heap[k]? = A.heap[k]?
  os : B.os = A.os
  tape : B.tape = A.tape
  output : B.output = A.output
theorem SameOn.refl (S : Nat → Prop) (A : World) : SameOn S A A := ⟨Nat.le_refl _, fun _ _ _ => rfl, rfl, rfl, rfl⟩
theorem SameOn.trans {S : Nat → Prop} {A B C : World} (h : SameOn S A B) (g : SameOn S B C) : SameOn S A C :=
  ⟨Nat.le_trans h.1 g.1, fun k hk hl => (g.2 k hk (Nat.lt_of_lt_of_le hl h.1)).trans (h.2 k hk hl), g.os.trans h.os, g.tape.trans h.tape, g.output.trans h.output⟩
theorem SameOn.mono {S T : Nat → Prop} {A B : World} (h : SameOn S A B) (hs : ∀ k, T k → S k) : SameOn T A B := ⟨h.1, fun k hk hl => h.2 k (hs k hk) hl, h.os, h.tape, h.output⟩
theorem SameOn.putObj {S : Nat → Prop} (A : World) (l : Nat) (o : Obj) (h : ¬ S l) : SameOn S A (A.putObj l o) :=
  ⟨by simp, fun k hk _ => World.putObj_heap_other (fun e => h (e ▸ hk)), rfl, rfl, rfl⟩
theorem SameOn.of_below {S : Nat → Prop} {A B : World} (h : Below A.heap.size A B) : SameOn S A B := ⟨h.size, fun k _ hl => h.block k hl, h.os, h.tape, h.output⟩
theorem SameOn.alloc (S : Nat → Prop) (A : World) (o : Obj) : SameOn S A (A.alloc o) := SameOn.of_below ((Below.refl _ _).alloc (Nat.le_refl _) o)
theorem SameOn.setCell {S : Nat → Prop} (A : World) (a : Addr) (v : Value) (h : ¬ S a.block) : SameOn S A (A.setCell a v) :=
  have hb : Below 0 A (A.setCell a v) := (Below.refl 0 A).setCell (Nat.zero_le _) v
  ⟨hb.size, fun k hk _ => Below.heap_setCell A a v k (fun e => h (e ▸ hk)), hb.os, hb.tape, hb.output⟩
theorem SameOn.drew (S : Nat → Prop) (A : World) : SameOn S A A.drew := SameOn.of_below (Below.refl _ A).drew
theorem SameOn.of_grown {S : Nat → Prop} {A B : World} {row : Option Nat} {b : Nat} (h : A.grownBy B row) (hb : Below b A B) (hr : ∀ k, row = some k → ¬ S k) : SameOn S A B :=
  ⟨h.size, fun k hk hl => h.block k hl (fun e => hr k e.symm hk), hb.os, hb.tape, hb.output⟩
theorem SameOn.below {S : Nat → Prop} {A B : World} {b : Nat} (h : SameOn S A B) (hS : ∀ k, k < b → S k) (hb : b ≤ A.heap.size) : Below b A B :=
  ⟨h.os, h.tape, h.output, h.size, fun k hk => h.same k (hS k hk) (Nat.lt_of_lt_of_le hk hb)⟩

/-- The caller's invariant abides what the iterator does: new blocks, and turns of its own blocks; and that blocks yet to come are the iterator's. -/
structure Bears {α : Type} (S0 : Nat → Prop) (J : (Nat → Prop) → List α → World → Prop) : Prop where
  step : ∀ S pre A B, J S pre A → SameOn (fun k => ¬ S k ∨ S0 k) A B → J S pre B
  more : ∀ (S T : Nat → Prop) pre A, J S pre A → (∀ k, T k → A.heap.size ≤ k) → J (fun k => S k ∨ T k) pre A

/-- An iterator's contract: it hands over the values that xs tell, one by one, in order; Rd x v W: what value v stands for x in world W. S0: the blocks that it leans on. -/
def Hands {α : Type} (P : Program) (g : Nat) (lb : Array Value) (Rd : α → Value → World → Prop) (xs : List α) (S0 : Nat → Prop) (w : World) : Prop :=
  ∀ (l n : Nat) (J : (Nat → Prop) → List α → World → Prop) (W : World), SameOn S0 w W → Bears S0 J →
    (∀ (S : Nat → Prop) pre x v A, J S pre A → (∀ k, S0 k → S k) → (∀ k, S k → k < A.heap.size) → (pre ++ [x]) <+: xs → Rd x v A →
      YieldAt Fence.wide (n - 1) P l #[v] A fun e W' => e = .returned (.bool true) ∧ J S (pre ++ [x]) W' ∧ SameOn S A W') →
    J S0 [] W →
    CallsIn Fence.wide n P g (#[.func (.yield l) #[] #[]] ++ lb) W fun e W' => (∃ v, e = .returned v) ∧ ∃ S, J S xs W'

variable {P : Program}
/-- How a round's body is left: it goes on. -/
def roundOn {α : Type} (I : (Nat → Prop) → List α → World → Prop) (S : Nat → Prop) (pre : List α) (W : World) : Exit → Act → World → Prop
  | .normal, _, W' => KeepsOthers W W' ∧ I S pre W' ∧ SameOn S W W'
  | _, _, _ => False

theorem wp_rangeMem {α : Type} {g : Operand} {p : Tmp} {assign body : Code} {Q : Exit → Act → World → Prop} {a : Act} {w : World}
    {gf : Nat} {lb : Array Value} (hg : a.eval g = .func (.func gf) #[] lb) (eg : ∀ args w, (callFunc gf args).run P w = .ok (.enter gf args) w)
    {Rd : α → Value → World → Prop} {xs : List α} {S0 : Nat → Prop} (hseq : Hands P gf lb Rd xs S0 w) (hS0 : ∀ k, S0 k → k < w.heap.size)
    (I : (Nat → Prop) → List α → World → Prop) (hI : Bears S0 I)
    (hIp : ∀ S pre A (l : Nat) (o o' : Obj), I S pre A → A.heap[l]? = some o → o.isCells = false → w.heap.size ≤ l → I S pre (A.putObj l o'))
    (hRp : ∀ x v A (l : Nat) (o o' : Obj), Rd x v A → A.heap[l]? = some o → o.isCells = false → Rd x v (A.putObj l o'))
    (h0 : I S0 [] w) (a₁ : Value → Act)
    (hassign : ∀ (l : Nat) (v : Value) (W : World) (n : Nat) (K : Act → World → Prop), K (a₁ v) W →
      assign.wpIn (Fence.wide.inRound l) n P (Exit.then K (fun _ _ _ => False)) { tmps := ((#[p] : Array Tmp).zip #[v]).foldl (fun t (p, v) => t.setIfInBounds p v) a.tmps, defers := [] } W)
    (hbody : ∀ (l n : Nat) (S : Nat → Prop) (pre : List α) (x : α) (v : Value) (W : World), I S pre W → (∀ k, S0 k → S k) → (∀ k, S k → k < W.heap.size) → (pre ++ [x]) <+: xs → Rd x v W →
      body.wpIn (Fence.wide.inRound l) n P (roundOn I S (pre ++ [x]) W) (a₁ v) W)
    (hdone : ∀ (D : Nat) (S : Nat → Prop) (W : World), I S xs W → w.heap.size ≤ D → W.heap[D]? = some (.deferred (some [])) → Q .normal { a with defers := { target := .collected D, args := #[] } :: a.defers } W) :
    (Code.rangeFunc g #[p] assign body).wp P Q a w := by
  refine (wpIn_wide (n := 0)).1 ?_
  refine wpIn_rangeFunc ?_
  intro fn hfn
  obtain ⟨rec, hrec⟩ : ∃ rec : LoopState → Option Code → Loop, rec = fun st pe => { state := st, pending := pe, fn, tmps := a.tmps, params := #[p], assign, body, defers := w.heap.size } := ⟨_, rfl⟩
  obtain ⟨W1, hW1⟩ : ∃ W1, (w.alloc (.deferred (some []))).alloc (.loop (rec .ready none)) = W1 := ⟨_, rfl⟩
  have hL1 : W1.heap[w.heap.size + 1]? = some (.loop (rec .ready none)) := by
    rw [← hW1]; have := World.alloc_heap_new (w.alloc (.deferred (some []))) (.loop (rec .ready none)); rwa [World.size_alloc] at this
  have hK1 : W1.heap[w.heap.size]? = some (.deferred (some [])) := by
    rw [← hW1]; exact (Below.heap_alloc _ _ _ (by simp)).trans (World.alloc_heap_new w _)
  have hs1 : ∀ S, SameOn S w W1 := fun S => by rw [← hW1]; exact (SameOn.alloc S _ _).trans (SameOn.alloc S _ _)
  have hI1 : I S0 [] W1 := hI.step _ _ _ _ h0 (hs1 _)
  refine ⟨w.heap.size + 1, [{ target := .collected w.heap.size, args := #[] }], W1, { target := .fn (.func gf) lb, args := #[.func (.yield (w.heap.size + 1)) #[] #[]] }, W1, gf,
    #[.func (.yield (w.heap.size + 1)) #[] #[]] ++ lb, W1, ?_, ?_, ?_, ?_, fun h => by simp [Fence.wide] at h, ?_⟩
  · rw [← hW1, hrec]; exact run_enterLoop_outer _ _ _ _ _
  · simp only [resolve, hg]
    simp [go_sem]
  · intro f' _; exact trivial
  · simp [invoke, go_sem, eg]
  · refine (hseq (w.heap.size + 1) (0 - 1)
      (fun S pre W => I S pre W ∧ W.heap[w.heap.size + 1]? = some (.loop (rec .ready none)) ∧ W.heap[w.heap.size]? = some (.deferred (some [])) ∧ ¬ S (w.heap.size + 1) ∧ ¬ S w.heap.size)
      W1 (hs1 _) ⟨?_, ?_⟩ ?_ ⟨hI1, hL1, hK1, fun h => by have := hS0 _ h; omega, fun h => by have := hS0 _ h; omega⟩).mono ?_
    · rintro S pre A B ⟨hi, hl, hk, hn1, hn2⟩ hs
      exact ⟨hI.step _ _ _ _ hi hs, (hs.2 _ (.inl hn1) (Array.getElem?_eq_some_iff.1 hl).1).trans hl, (hs.2 _ (.inl hn2) (Array.getElem?_eq_some_iff.1 hk).1).trans hk, hn1, hn2⟩
    · rintro S T pre A ⟨hi, hl, hk, hn1, hn2⟩ ht
      have h1 := (Array.getElem?_eq_some_iff.1 hl).1
      refine ⟨hI.more _ _ _ _ hi ht, hl, hk, ?_, ?_⟩
      · rintro (h | h)
        · exact hn1 h
        · have := ht _ h; omega
      · rintro (h | h)
        · exact hn2 h
        · have := ht _ h; omega
    · -- one round
      rintro S pre x v W ⟨hi, hl, hk, hn1, hn2⟩ hsub hsz hlen hrd
      have hlt : w.heap.size + 1 < W.heap.size := (Array.getElem?_eq_some_iff.1 hl).1
      have hy := run_yield (P := P) (args := #[v]) hl (by rw [hrec]; rfl)
      rw [hrec] at hy
      refine ⟨fn, _, assign, body, hy, roundIn_of_wpIn hfn ?_⟩
      refine hassign (w.heap.size + 1) v W (0 - 1 - 1) _ ?_
      refine ⟨_, run_beginRound hl (by rw [hrec]), ?_⟩
      have hl2 : (W.putObj (w.heap.size + 1) (.loop { rec .ready none with state := .busy })).heap[w.heap.size + 1]? = some (.loop { rec .ready none with state := .busy }) := World.putObj_heap_same hlt
      have hk2 : (W.putObj (w.heap.size + 1) (.loop { rec .ready none with state := .busy })).heap[w.heap.size]? = some (.deferred (some [])) := (World.putObj_heap_other (by omega)).trans hk
      refine wpIn_mono (hbody _ _ S pre x v _ (hIp _ _ _ _ _ _ hi hl rfl (by omega)) hsub (fun k h => by simpa using hsz k h) hlen (hRp _ _ _ _ _ _ hrd hl rfl)) ?_
      rintro e a3 W3 hp
      cases e with
      | normal =>
        obtain ⟨hk3, hi3, hs3⟩ := hp
        have hl3 := hk3.same _ _ hl2 rfl
        have hend := run_endRound (P := P) none hl3
        have hlt3 := (Array.getElem?_eq_some_iff.1 hl3).1
        refine ⟨_, _, hend, rfl, ⟨hIp _ _ _ _ _ _ hi3 hl3 rfl (by omega), ?_, ?_, hn1, hn2⟩, ?_⟩
        · rw [World.putObj_heap_same hlt3, hrec]; rfl
        · exact (World.putObj_heap_other (by omega)).trans (hk3.same _ _ hk2 rfl)
        · exact ((SameOn.putObj W _ _ hn1).trans hs3).trans (SameOn.putObj _ _ _ hn1)
      | ret => exact hp.elim
      | exit id => exact hp.elim
      | goto t => exact hp.elim
      | panic ch => exact hp.elim
      | outgrown => exact hp.elim
    · -- behind the iterator
      rintro e W2 ⟨⟨v, rfl⟩, S, hi, hl, hk, hn1, hn2⟩
      refine ⟨none, _, by have := run_endLoop (P := P) hl (by rw [hrec]; simp); rw [hrec] at this; exact this, ?_⟩
      exact hdone _ S _ (hIp _ _ _ _ _ _ hi hl rfl (by omega)) (Nat.le_refl _) ((World.putObj_heap_other (by omega)).trans hk)
end Go.Proofs.YtjbjofmcmjojlaaQ
