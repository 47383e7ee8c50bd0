-- Texts that the row GridGrows leans on, joined by wip/tools/mkclaim.py: QRangeMem, QOdo, QAppendIn, QCopyAt, Wk0, Wk2, Wk3, Wk4, Wk5, Wk6, Wk10, Wk12, Wk13, Wk15, Wk16, Wk17, Wk18, Wk19, Wk23, Wk24, Wk7, Wk8, Wk9, Wk20
import Derived.Test.YtjbjofmcmjojlabCGridGrows0
import Derived.RangeFuncNested
import Derived.RangeFuncBound
import Derived.RangeFuncCalls
import Derived.RangeFuncLeaves
import Derived.WalkKit
import Derived.OwnWalkIn
import Derived.Maps.AppendAt
import Derived.Test.YtjbjofmcmjojlabProg
import Derived.Below
import Derived.Deep.Draws
import Derived.Deep.AppendLies
import Derived.OwnWalk
import Derived.Laws.BytesArg
import Derived.Laws.MakeOwn
import Derived.Laws.OwnMore
import Derived.Deep.OwnRows
import Derived.Tactics
import Derived.Lib.ConvBytes
import Derived.Laws.Slices
import Derived.KernelRfl
import Derived.RowKit3
import Derived.Deep.LoopGhost
import Derived.Deep.QuietTactic
import Derived.BigQuiet
import Derived.WideLaws
import Derived.Deep.DeepCutAuto
import Derived.Deep.CutBlock
import Derived.Deep.RegionHeld3
import Derived.Laws.Rows
import Derived.Lib.AppendStr
import Derived.ArgAppend
import Derived.Laws.IdiomCopy
import Derived.OrdersHeld
import Derived.Laws.BitsLemmas
import Derived.RowKit
import Derived.WalkSpells
import Derived.Sort.LoopGhostIn
import Derived.Sort.CutIn
import Derived.Shelf.Abstract
import Derived.Shelf.RegionOpen
import Derived.TacticsInMore
import Derived.LoopNIn
import Derived.LoopIn
import Derived.Lib.MakeNoZero
import Derived.Lib.SlBytesConst
section
namespace Go.Proofs.YtjbjofmcmjojlabQ
open Go Go.RowKit
structure SameOn (S : Nat → Prop) (A B : World) : Prop where
  size : A.heap.size ≤ B.heap.size
  same : ∀ k, S k → k < A.heap.size → B.heap[k]? = A.heap[k]?
  os : B.os = A.os
  tape : B.tape = A.tape
  output : B.output = A.output
theorem SameOn.refl (S : Nat → Prop) (A : World) : SameOn S A A := ⟨Nat.le_refl _, fun _ _ _ => rfl, rfl, rfl, rfl⟩
theorem SameOn.trans {S : Nat → Prop} {A B C : World} (h : SameOn S A B) (g : SameOn S B C) : SameOn S A C :=
  ⟨Nat.le_trans h.1 g.1, fun k hk hl => (g.2 k hk (Nat.lt_of_lt_of_le hl h.1)).trans (h.2 k hk hl), g.os.trans h.os, g.tape.trans h.tape, g.output.trans h.output⟩
theorem SameOn.mono {S T : Nat → Prop} {A B : World} (h : SameOn S A B) (hs : ∀ k, T k → S k) : SameOn T A B := ⟨h.1, fun k hk hl => h.2 k (hs k hk) hl, h.os, h.tape, h.output⟩
theorem SameOn.of_below {S : Nat → Prop} {A B : World} (h : Below A.heap.size A B) : SameOn S A B := ⟨h.size, fun k _ hl => h.block k hl, h.os, h.tape, h.output⟩
theorem SameOn.alloc (S : Nat → Prop) (A : World) (o : Obj) : SameOn S A (A.alloc o) := SameOn.of_below ((Below.refl _ _).alloc (Nat.le_refl _) o)
theorem SameOn.setCell {S : Nat → Prop} (A : World) (a : Addr) (v : Value) (h : ¬ S a.block) : SameOn S A (A.setCell a v) :=
  have hb : Below 0 A (A.setCell a v) := (Below.refl 0 A).setCell (Nat.zero_le _) v
  ⟨hb.size, fun k hk _ => Below.heap_setCell A a v k (fun e => h (e ▸ hk)), hb.os, hb.tape, hb.output⟩
theorem SameOn.drew (S : Nat → Prop) (A : World) : SameOn S A A.drew := SameOn.of_below (Below.refl _ A).drew
theorem SameOn.below {S : Nat → Prop} {A B : World} {b : Nat} (h : SameOn S A B) (hS : ∀ k, k < b → S k) (hb : b ≤ A.heap.size) : Below b A B :=
  ⟨h.os, h.tape, h.output, h.size, fun k hk => h.same k (hS k hk) (Nat.lt_of_lt_of_le hk hb)⟩
structure Bears {α : Type} (S0 : Nat → Prop) (J : (Nat → Prop) → List α → World → Prop) : Prop where
  step : ∀ S pre A B, J S pre A → SameOn (fun k => ¬ S k ∨ S0 k) A B → J S pre B
  more : ∀ (S T : Nat → Prop) pre A, J S pre A → (∀ k, T k → A.heap.size ≤ k) → J (fun k => S k ∨ T k) pre A
def Hands {α : Type} (P : Program) (g : Nat) (lb : Array Value) (Rd : α → Value → World → Prop) (xs : List α) (S0 : Nat → Prop) (w : World) : Prop :=
  ∀ (l n : Nat) (J : (Nat → Prop) → List α → World → Prop) (W : World), SameOn S0 w W → Bears S0 J →
    (∀ (S : Nat → Prop) pre x v A, J S pre A → (∀ k, S0 k → S k) → (∀ k, S k → k < A.heap.size) → (pre ++ [x]) <+: xs → Rd x v A →
      YieldAt Fence.wide (n - 1) P l #[v] A fun e W' => e = .returned (.bool true) ∧ J S (pre ++ [x]) W' ∧ SameOn S A W') →
    J S0 [] W →
    CallsIn Fence.wide n P g (#[.func (.yield l) #[] #[]] ++ lb) W fun e W' => (∃ v, e = .returned v) ∧ ∃ S, J S xs W'
variable {P : Program}
def roundOn {α : Type} (I : (Nat → Prop) → List α → World → Prop) (S : Nat → Prop) (pre : List α) (W : World) : Exit → Act → World → Prop
  | .normal, _, W' => KeepsOthers W W' ∧ I S pre W' ∧ SameOn S W W'
  | _, _, _ => False
end Go.Proofs.YtjbjofmcmjojlabQ
end
section
namespace Go.Proofs.YtjbjofmcmjojlabQ
def odoNext (N : List Nat) : List Nat → Nat → Option (List Nat)
  | _, 0 => none
  | s, d + 1 => if s.getD d 0 + 1 < N.getD d 0 then some (s.set d (s.getD d 0 + 1)) else odoNext N (s.set d 0) d
inductive Odo (N : List Nat) : List Nat → List (List Nat) → Prop where
  | last {s : List Nat} : odoNext N s N.length = none → Odo N s [s]
  | more {s s' : List Nat} {l : List (List Nat)} : odoNext N s N.length = some s' → Odo N s' l → Odo N s (s :: l)
def tupAt (av : Nat → Nat → Int) (s : List Nat) : List Int := (List.range s.length).map fun d => av d (s.getD d 0)
def ints (s : List Nat) : List Int := s.map Int.ofNat
def lexList : List Nat → List (List Nat)
  | [] => [[]]
  | n :: N => (List.range n).flatMap fun i => (lexList N).map (i :: ·)
def odoGo (N : List Nat) : List Nat → Nat → List Nat × Bool
  | s, 0 => (s, false)
  | s, d + 1 => if s.getD d 0 + 1 < N.getD d 0 then (s.set d (s.getD d 0 + 1), true) else odoGo N (s.set d 0) d
theorem odoNext_go (N : List Nat) : ∀ (m : Nat) (s : List Nat), odoNext N s m = if (odoGo N s m).2 then some (odoGo N s m).1 else none
  | 0, s => rfl
  | m + 1, s => by
    simp only [odoNext, odoGo]
    split
    · rfl
    · exact odoNext_go N m _
theorem odoGo_cons (n i : Nat) (N : List Nat) : ∀ (m : Nat) (s : List Nat), odoGo (n :: N) (i :: s) (m + 1) =
    if (odoGo N s m).2 then (i :: (odoGo N s m).1, true) else if i + 1 < n then ((i + 1) :: (odoGo N s m).1, true) else (0 :: (odoGo N s m).1, false)
  | 0, s => by simp [odoGo]
  | m + 1, s => by
    rw [odoGo]
    simp only [List.getD_cons_succ, List.set_cons_succ]
    by_cases h : s.getD m 0 + 1 < N.getD m 0
    · have e : odoGo N s (m + 1) = (s.set m (s.getD m 0 + 1), true) := by rw [odoGo, if_pos h]
      rw [if_pos h, e]
      simp
    · have e : odoGo N s (m + 1) = odoGo N (s.set m 0) m := by rw [odoGo, if_neg h]
      rw [if_neg h, odoGo_cons n i N m (s.set m 0), e]
theorem odoGo_off (N : List Nat) : ∀ (m : Nat) (s : List Nat), m ≤ s.length → (odoGo N s m).2 = false → (odoGo N s m).1 = List.replicate m 0 ++ s.drop m
  | 0, s, _, _ => by simp [odoGo]
  | m + 1, s, hm, h => by
    simp only [odoGo] at h ⊢
    by_cases hc : s.getD m 0 + 1 < N.getD m 0
    · rw [if_pos hc] at h; cases h
    · rw [if_neg hc] at h ⊢
      rw [odoGo_off N m (s.set m 0) (by simp; omega) h]
      rw [List.drop_eq_getElem_cons (by simp; omega : m < (s.set m 0).length)]
      simp only [List.getElem_set_self, List.drop_set]
      rw [if_pos (by omega), List.replicate_succ']
      simp
theorem Odo.length {N s : List Nat} {l : List (List Nat)} (h : Odo N s l) : 0 < l.length := by cases h <;> simp
theorem Odo.cons {n i : Nat} {N s : List Nat} {l T : List (List Nat)} (h : Odo N s l) (hs : s.length = N.length)
    (hT : (i + 1 < n ∧ Odo (n :: N) ((i + 1) :: List.replicate N.length 0) T) ∨ (n ≤ i + 1 ∧ T = [])) : Odo (n :: N) (i :: s) (l.map (i :: ·) ++ T) := by
  induction h with
  | @last s h =>
    rw [odoNext_go] at h
    have h0 : (odoGo N s N.length).2 = false := by
      cases e : (odoGo N s N.length).2 with
      | false => rfl
      | true => rw [if_pos e] at h; cases h
    have h1 := odoGo_off N N.length s (by omega) h0
    rw [List.drop_eq_nil_of_le (by omega), List.append_nil] at h1
    rcases hT with ⟨h2, h3⟩ | ⟨h2, rfl⟩
    · refine Odo.more ?_ h3
      rw [odoNext_go, List.length_cons, odoGo_cons, h0]
      simp [h2, h1]
    · refine Odo.last ?_
      rw [odoNext_go, List.length_cons, odoGo_cons, h0]
      simp [show ¬ i + 1 < n by omega]
  | @more s s' l h _ ih =>
    have hl : s'.length = N.length := by
      rw [odoNext_go] at h
      split at h
      · injection h with h
        rw [← h]
        have : ∀ (m : Nat) (s : List Nat), (odoGo N s m).1.length = s.length := by
          intro m
          induction m with
          | zero => intro s; rfl
          | succ m ih => intro s; simp only [odoGo]; split <;> simp [ih]
        rw [this, hs]
      · cases h
    refine Odo.more ?_ (ih hl)
    rw [odoNext_go] at h ⊢
    rw [List.length_cons, odoGo_cons]
    split at h
    · rename_i h2
      injection h with h
      simp [h2, h]
    · cases h
theorem odo_tail (n : Nat) (N : List Nat) (ih : Odo N (List.replicate N.length 0) (lexList N)) : ∀ (d i : Nat), n - i = d → i < n →
    Odo (n :: N) (i :: List.replicate N.length 0) ((List.range' i d).flatMap fun i => (lexList N).map (i :: ·))
  | 0, i, h, hi => by omega
  | d + 1, i, h, hi => by
    rw [List.range'_succ, List.flatMap_cons]
    refine Odo.cons ih (by simp) ?_
    by_cases h2 : i + 1 < n
    · exact .inl ⟨h2, odo_tail n N ih d (i + 1) (by omega) h2⟩
    · refine .inr ⟨by omega, ?_⟩
      have : d = 0 := by omega
      subst this
      rfl
theorem odo_lex : ∀ (N : List Nat), (∀ d, d < N.length → 0 < N.getD d 0) → Odo N (List.replicate N.length 0) (lexList N)
  | [], _ => Odo.last rfl
  | n :: N, h => by
    have h0 : 0 < n := h 0 (by simp)
    have ih := odo_lex N (fun d hd => by have := h (d + 1) (by simp; omega); simpa using this)
    have := odo_tail n N ih n 0 (by omega) h0
    rw [lexList, List.range_eq_range']
    exact this
end Go.Proofs.YtjbjofmcmjojlabQ
end
section
namespace Go.Proofs.YtjbjofmcmjojlabQ
open Go
end Go.Proofs.YtjbjofmcmjojlabQ
end
section
namespace Go.Proofs.YtjbjofmcmjojlabQ
open Go Go.RowKit Go.Proofs.YtjbjofmcmjojlabW.PrintWords Go.Proofs.YtjbjofmcmjojlabW.PrintLast Go.Proofs.YtjbjofmcmjojlabW.PrintMore
variable {P : Program}
def laid {α : Type} (xs : List α) (o : Nat) (ys : List α) : List α := xs.take o ++ (ys ++ xs.drop (o + ys.length))
theorem laid_length {α : Type} (xs : List α) (o : Nat) (ys : List α) (h : o + ys.length ≤ xs.length) : (laid xs o ys).length = xs.length := by simp [laid]; omega
theorem laid_end {α : Type} (xs ys : List α) : laid xs xs.length ys = xs ++ ys := by
  simp [laid]
abbrev bytesV (xs : List Int) : List Value := xs.map (Value.int .u8)
structure Buf (e : Nat) (W : World) (g n : Nat) (xs : List Int) : Prop where
  len : xs.length ≤ n
  max : n ≤ 9223372036854775807
  blk : ∃ cur : Array Value, W.heap[g]? = some (.cells cur e (0, 0)) ∧ n ≤ cur.size ∧ cur.toList.take xs.length = bytesV xs
section
variable {e g n : Nat} {W W' : World} {xs ys : List Int}
theorem Buf.step (h : Buf e W g n xs) (hm : W'.heap[g]? = W.heap[g]?) : Buf e W' g n xs := by
  obtain ⟨h1, h2, cur, h3, h4⟩ := h
  exact ⟨h1, h2, cur, hm.trans h3, h4⟩
theorem Buf.lt (h : Buf e W g n xs) : g < W.heap.size := by
  obtain ⟨_, _, cur, h3, _⟩ := h
  exact (Array.getElem?_eq_some_iff.1 h3).1
theorem Buf.below (h : Buf e W g n xs) (hb : Below W.heap.size W W') : Buf e W' g n xs := h.step (hb.block g h.lt)
theorem Buf.cell (h : Buf e W g n xs) (j : Nat) (hj : j < xs.length) : W.cell? ⟨g, j, none⟩ = some (.int .u8 (xs.getD j 0)) := by
  obtain ⟨h1, _, cur, h3, h4, h5⟩ := h
  rw [cell_of_row W g _ cur e (0, 0) h3]
  have := congrArg (fun l => l[j]?) h5
  simp only [List.getElem?_take, hj, if_true, bytesV, List.getElem?_map, List.getElem?_eq_getElem hj, Option.map_some, Array.getElem?_toList] at this
  rw [this]
  simp [List.getD_eq_getElem?_getD, hj]
theorem Buf.C (h : Buf e W g n xs) (hn : xs.length = n) : (Kd.int .u8).C W (some ⟨g, 0, none⟩) xs.length xs := by
  refine Kd.C_of_reads (d := (0 : Int)) (h1 := fun _ => rfl) ⟨rfl, by have := h.max; omega, fun _ => ⟨_, rfl, fun j hj => ?_⟩⟩
  have hc := h.cell j hj
  have he : (⟨g, 0, none⟩ : Addr).add j = ⟨g, j, none⟩ := by
    by_cases h0 : j = 0
    · subst h0; simp [Addr.add]
    · simp [Addr.add, h0]
  rw [he]
  exact hc
theorem Buf.copy {t t' ty o dLen dCap m c : Nat} {ad : Addr} (h : Buf e W g n xs) (ht : P.underlying t = some (.slice e)) (hinfo : (P.info? e).map (·.size) = some 1)
    (ho : o ≤ xs.length) (hlen : ys.length = min m dLen) (hfit : o + ys.length ≤ n) (hsrc : ∀ j : Nat, j < ys.length → W.cell? (ad.add j) = some (.int .u8 (ys.getD j 0))) :
    ∃ W1, (Builtin.copy_ #[t, t'] ty #[.slice (some ⟨g, o, none⟩) dLen dCap, .slice (some ad) m c]).run P W = .ok (goInt ((ys.length : Nat) : Int)) W1 ∧ Buf e W1 g n (laid xs o ys) ∧ W.grownBy W1 (some g) := by
  obtain ⟨hl, hmx, cur, hh, hcs, htk⟩ := h
  have hkl : (bytesV ys).length = ys.length := by simp
  have hr := run_copy_cells (P := P) W t t' ty e g o dLen dCap ad m c (bytesV ys) ht hinfo (by rw [hkl]; exact hlen) (fun j u hu => by
      rw [List.getElem?_map] at hu
      obtain ⟨y, hy, rfl⟩ := Option.map_eq_some_iff.1 hu
      obtain ⟨hj, rfl⟩ := List.getElem?_eq_some_iff.1 hy
      rw [hsrc j hj]
      simp [List.getD_eq_getElem?_getD, hj])
    (fun j hj => by rw [cell_of_row W g _ cur e (0, 0) hh]; simp; rw [hkl] at hj; omega) (fun j _ => blk_frozen hh _) (by intro u hu; obtain ⟨q, _, rfl⟩ := List.mem_map.1 hu; rfl)
  obtain ⟨cur', h3, h4, h5⟩ := setCells_row (bytesV ys) o W cur hh (by rw [hkl]; omega)
  obtain ⟨s1, s2, s3, s4⟩ := setCells_same g (bytesV ys) o W
  refine ⟨_, by rw [hr, hkl], ⟨?_, hmx, cur', h3, by rw [h4]; exact hcs, ?_⟩, ⟨s1, s2, s3, by rw [s4]; exact Nat.le_refl _, fun k _ hk => setCells_far _ _ k (fun he => hk (by rw [he]))⟩⟩
  · simp only [laid, List.length_append, List.length_take, List.length_drop]
    omega
  · have hLl : cur.toList.length = cur.size := Array.length_toList
    have hto : (bytesV xs).take o = cur.toList.take o := by rw [← htk, List.take_take, show min o xs.length = o by omega]
    have hR : bytesV (laid xs o ys) = (bytesV xs).take o ++ (bytesV ys ++ (bytesV xs).drop (o + ys.length)) := by simp [laid, bytesV, List.map_take, List.map_drop]
    rw [h5, hR, hto, hkl, List.append_assoc]
    by_cases hc : o + ys.length ≤ xs.length
    · have hln : (laid xs o ys).length = xs.length := laid_length _ _ _ hc
      have hEl : (bytesV ys).take (xs.length - o) = bytesV ys := List.take_of_length_le (by rw [hkl]; omega)
      rw [hln, ← htk, List.take_append, List.take_append, List.take_take, List.drop_take, List.length_take, hkl, hLl]
      rw [show min xs.length o = o by omega, show min o cur.size = o by omega, hEl, show xs.length - o - ys.length = xs.length - (o + ys.length) by omega]
    · have hd : (bytesV xs).drop (o + ys.length) = [] := List.drop_eq_nil_of_le (by simp; omega)
      have hln : (laid xs o ys).length = o + ys.length := by
        simp only [laid, List.length_append, List.length_take, List.length_drop]
        omega
      rw [hd, hln, List.append_nil, List.take_append, List.take_append, List.take_take, List.length_take, hkl, hLl]
      have e1 : o + ys.length - min o cur.size = ys.length := by omega
      rw [e1, List.take_of_length_le (by rw [hkl]; omega : (bytesV ys).length ≤ ys.length), show min (o + ys.length) o = o by omega]
      simp
end
theorem wpList_copy {W W1 : World} {ops : Array Oper} {rest : List Oper} {o : Oper} {a : Act} {Q : Exit → Act → World → Prop} (hgd : o.guard = none) (d s : Operand) (t t' : TypeId)
    (ho : o.op = .call { callee := .builtin .copy, args := #[d, s], argTypes := #[t, t'] }) (v u : Value) (hd : a.eval d = v) (hs : a.eval s = u) {v' : Value}
    (hr : (Builtin.copy_ #[t, t'] o.type #[v, u]).run P W = .ok v' W1) (h : wpList P ops Q rest (a.put o.dst v') W1) : wpList P ops Q (o :: rest) a W := by
  refine wpList_plain hgd fun K hK => ?_
  unfold Oper.wp
  simp [execOp, ho, resolve, invoke, builtin, hd, hs, hr, Result.andThen]
  exact hK _ _ h
theorem step_copy {W W1 : World} {ops : Array Oper} {o : Oper} {a : Act} {K : Act → World → Prop} {Q : Exit → Act → World → Prop} {E : Prop} (hgd : o.guard = none) (d s : Operand) (t t' : TypeId)
    (ho : o.op = .call { callee := .builtin .copy, args := #[d, s], argTypes := #[t, t'] }) (v u : Value) (hd : a.eval d = v) (hs : a.eval s = u) {v' : Value}
    (hr : (Builtin.copy_ #[t, t'] o.type #[v, u]).run P W = .ok v' W1) (hK : K (a.put o.dst v') W1) : if Region.wanted o (yielded ops a.tmps) = true then Oper.wp P o a W K Q else E := by
  have hw : Region.wanted o (yielded ops a.tmps) = true := by simp [Region.wanted, hgd]
  rw [if_pos hw]
  unfold Oper.wp
  simp [execOp, ho, resolve, invoke, builtin, hd, hs, hr, Result.andThen]
  exact hK
end Go.Proofs.YtjbjofmcmjojlabQ
end
section
namespace Go.Proofs.Ytjbjofmcmjojlab.Wk
open Go.RowKit Go.Proofs.YtjbjofmcmjojlabW.PrintWords Go.Proofs.YtjbjofmcmjojlabW.PrintLast Go.Proofs.YtjbjofmcmjojlabW.PrintMore
attribute [local go_sem] max2_int min2_int max_two min_two max_three min_three max_four min_four
set_option linter.unusedVariables false
set_option linter.unusedSimpArgs false
def errW : Option Int → Value
  | none => .nilIface
  | some c => .iface 0 (.int .i64 c)
theorem errW_none : errW none = .nilIface := rfl
theorem errW_some (c : Int) : errW (some c) = .iface 0 (.int .i64 c) := rfl
theorem info3 : (Try.prog.info? 3).map (fun i => (i.zero, i.size, i.bytes)) = some (some (.int .i64 0), 1, 8) := by kernel_rfl
def rd_L1 (xs : List (List Int)) (i : Int) : (List Int) := xs.getD i.toNat ([] : List Int)
theorem at_L1 {w : World} {A : Option Addr} {n : Nat} {xs : List (List Int)} (h : Kd.C (Kd.slice 3 (Kd.int .i64)) w A n xs) (i : Int) (h0 : 0 ≤ i) (h1 : i < n) : ∃ ad A0 c0, A = some ad ∧ w.cell? (ad.add i.toNat) = some (.slice A0 (rd_L1 xs i).length c0) ∧ (rd_L1 xs i).length ≤ c0 ∧ (Kd.int .i64).C w A0 (rd_L1 xs i).length (rd_L1 xs i) := by
  obtain ⟨ad, c, e, _, hK, hc0⟩ := Kd.C_get h ([] : List Int) i h0 h1
  have hc : ∀ j u, c[j]? = some u → w.cell? (ad.add (i.toNat * 1 + j)) = some u := hc0
  obtain ⟨A0, c0, rfl, l0, g0⟩ := hK
  exact ⟨ad, A0, c0, e, by have hq := hc 0 _ rfl; rwa [Nat.mul_one, Nat.add_zero] at hq, l0, g0⟩
def rd_L3 (xs : List (List Int)) (i : Int) : (List Int) := xs.getD i.toNat ([] : List Int)
end Go.Proofs.Ytjbjofmcmjojlab.Wk
end
section
namespace Go.Proofs.Ytjbjofmcmjojlab.Wk
open Go.RowKit Go.Proofs.YtjbjofmcmjojlabW.PrintWords Go.Proofs.YtjbjofmcmjojlabW.PrintLast Go.Proofs.YtjbjofmcmjojlabW.PrintMore
attribute [local go_sem] max2_int min2_int max_two min_two max_three min_three max_four min_four
set_option linter.unusedVariables false
set_option linter.unusedSimpArgs false
def idxFrom (p : Int → Bool) (l : List Int) : Nat → Nat → Int
  | 0, _ => -1
  | d + 1, i => if p (rd l i) then i else idxFrom p l d (i + 1)
theorem idxFrom_any_aux (p : Int → Bool) (l : List Int) (d : Nat) : ∀ i, l.length - i = d → decide (0 ≤ idxFrom p l d i) = (l.drop i).any p := by
  induction d with
  | zero => intro i h; rw [List.drop_eq_nil_of_le (by omega)]; simp [idxFrom]
  | succ d ih =>
    intro i h
    have hi : i < l.length := by omega
    rw [List.drop_eq_getElem_cons hi, List.any_cons, ← ih (i + 1) (by omega), idxFrom]
    have e : rd l (i : Int) = l[i] := by simp [rd, hi]
    rw [e]
    by_cases hp : p l[i] = true
    · rw [if_pos hp, hp]; simp
    · rw [if_neg hp]; simp only [Bool.not_eq_true] at hp; rw [hp]; simp
theorem idxFrom_any (p : Int → Bool) (l : List Int) : decide (0 ≤ idxFrom p l l.length 0) = l.any p := by
  have := idxFrom_any_aux p l l.length 0 (by omega)
  simpa using this
def PredAt (g : Nat) (C : Array Value) (p : Int → Bool) (w : World) : Prop :=
  (∀ args w, Sem.run Try.prog (callFunc g args) w = .ok (.enter g args) w) ∧
  ∀ (x : Int) (n : Nat), Calls Try.prog g (#[.int .i64 x] ++ C) (w.drewN n) fun e w' => e = .returned (.bool (p x)) ∧ Drawn0 w w'
set_option maxHeartbeats 800000 in
theorem IndexFunc_int (g : Nat) (C : Array Value) (p : Int → Bool)
    (A0 : Option Addr) (c0 : Nat) (l0 : List Int) (w : World) (hp : PredAt g C p w) (hr0 : Kd.C (Kd.int .i64) w A0 l0.length l0) (hm : l0.length ≤ maxLen) :
    Calls Try.prog 58 #[.slice A0 l0.length c0, .func (.func g) #[] C] w fun e w' => e = .returned (.int .i64 (idxFrom p l0 l0.length 0)) ∧ Drawn0 w w' := by
  have HR0 := Aside0.mk hr0
  clear hr0
  unfold maxLen at hm
  go_enter Try.func58, Try.ntmps58
  go_wp2
  go_loopw [5, 8] (fun _ i wr => ∃ k : Nat, k ≤ l0.length ∧ i = .int .i64 k ∧ Aside0 (idxFrom p l0 l0.length 0 = idxFrom p l0 (l0.length - k) k) ∧ Drawn0 w wr) (fun _ i _ => l0.length - (intOf i).toNat)
  case atStart => exact ⟨0, Nat.zero_le _, rfl, ⟨rfl⟩, Drawn0.refl _⟩
  case round =>
    obtain ⟨k, hk, rfl, HE, ⟨nd, rfl⟩⟩ := hrel
    by_cases hlt : k < l0.length
    · obtain ⟨ad, e1, hx0⟩ := Kd.at_int HR0.out k (by omega) (by omega)
      cases e1
      have hx : w.cell? (ad.add k) = some (Value.int IntKind.i64 (rd l0 k)) := by simpa using hx0
      clear hx0
      have hq := hp.2 (rd l0 k) nd
      have hcf := hp.1
      have HN : Aside0 (idxFrom p l0 (l0.length - k) k = if p (rd l0 k) then (k : Int) else idxFrom p l0 (l0.length - (k + 1)) (k + 1)) := ⟨by
        rw [show l0.length - k = (l0.length - (k + 1)) + 1 by omega, idxFrom]⟩
      generalize p (rd l0 k) = b at hq HN
      have HQ := Aside0.mk hq
      clear hq
      cases b with
      | true =>
        go_wp2_with (refine HQ.out.mono ?_; rintro e w' ⟨rfl, ⟨n2, rfl⟩⟩)
        go_ret
        exact ⟨by rw [HE.out, HN.out]; rfl, by first | exact Drawn0.refl _ | (exact ⟨_, rfl⟩)⟩
      | false =>
        go_wp2_with (refine HQ.out.mono ?_; rintro e w' ⟨rfl, ⟨n2, rfl⟩⟩)
        go_roundw
        case rel => exact ⟨k + 1, by omega, by go_num, ⟨by rw [HE.out, HN.out]; simp⟩, ⟨_, rfl⟩⟩
        case measure => simp [intOf]; omega
    · have HN : Aside0 (idxFrom p l0 (l0.length - k) k = -1) := ⟨by rw [show l0.length - k = 0 by omega, idxFrom]⟩
      go_wp2
      go_ret
      exact ⟨by rw [HE.out, HN.out]; rfl, ⟨_, rfl⟩⟩
end Go.Proofs.Ytjbjofmcmjojlab.Wk
end
section
namespace Go.Proofs.Ytjbjofmcmjojlab.Wk
open Go.RowKit Go.Proofs.YtjbjofmcmjojlabW.PrintWords Go.Proofs.YtjbjofmcmjojlabW.PrintLast Go.Proofs.YtjbjofmcmjojlabW.PrintMore
attribute [local go_sem] max2_int min2_int max_two min_two max_three min_three max_four min_four
set_option linter.unusedVariables false
set_option linter.unusedSimpArgs false
set_option maxHeartbeats 800000 in
theorem ContainsFunc_int (g : Nat) (C : Array Value) (p : Int → Bool)
    (A0 : Option Addr) (c0 : Nat) (l0 : List Int) (w : World) (hp : PredAt g C p w) (hr0 : Kd.C (Kd.int .i64) w A0 l0.length l0) (hm : l0.length ≤ maxLen) :
    Calls Try.prog 52 #[.slice A0 l0.length c0, .func (.func g) #[] C] w fun e w' => e = .returned (.bool (l0.any p)) ∧ Drawn0 w w' := by
  have HR0 := Aside0.mk hr0
  clear hr0
  have HP := Aside0.mk hp
  clear hp
  have HM := Aside0.mk hm
  clear hm
  go_enter Try.func52, Try.ntmps52
  go_wp2_with (go_at_call 58; refine (IndexFunc_int g C p _ _ l0 _ HP.out HR0.out HM.out).mono ?_; rintro e w' ⟨rfl, ⟨n2, rfl⟩⟩)
  go_ret
  exact ⟨by rw [← idxFrom_any]; rfl, ⟨_, rfl⟩⟩
end Go.Proofs.Ytjbjofmcmjojlab.Wk
end
section
namespace Go.Proofs.Ytjbjofmcmjojlab.Wk
open Go.RowKit Go.Proofs.YtjbjofmcmjojlabW.PrintWords Go.Proofs.YtjbjofmcmjojlabW.PrintLast Go.Proofs.YtjbjofmcmjojlabW.PrintMore
attribute [local go_sem] max2_int min2_int max_two min_two max_three min_three max_four min_four
set_option linter.unusedVariables false
set_option linter.unusedSimpArgs false
def slices_Index_int_int.l0 : Nat → List Int → Int → Int → Int → Option (Int)
  | 0, _, _, _, _ => none
  | k + 1, x0, x1, x7, x8 => if x8 < x7 then (if 0 ≤ x8 then (if x8 < (x0.length : Int) then (if x1 = (rd x0 x8) then (some x8) else (slices_Index_int_int.l0 k x0 x1 x7 (wrap64 (x8 + 1)))) else (none)) else (none)) else (some (-1))
def slices_Index_int_int.f (k : Nat) (l0 : List Int) (a1 : Int) : Option (Int) := slices_Index_int_int.l0 k l0 a1 (l0.length : Int) 0
set_option maxHeartbeats 8000000 in
set_option maxRecDepth 100000 in
theorem slices_Index_int_int.calls (k : Nat) (A0 : Option Addr) (c0 : Nat) (l0 : List Int) (a1 : Int) (r : Int) (w : World) (hr0 : Kd.C (Kd.int .i64) w A0 l0.length l0) (hc0 : l0.length ≤ c0) (h : slices_Index_int_int.f k l0 a1 = some r) :
    Calls Try.prog 59 #[.slice A0 l0.length c0, .int .i64 a1] w fun e w' => e = .returned (.int .i64 r) ∧ Drawn0 w w' := by
  have HR0 := Aside0.mk hr0
  have HC0 := Aside0.mk hc0
  clear hr0 hc0
  have H : (slices_Index_int_int.l0 k l0 a1 (l0.length : Int) 0) = some r := h
  clear h
  have H' := Aside0.mk H
  clear H
  go_enter Try.func59, Try.ntmps59
  go_wp2
  go_loopg [8] k (fun kq v8 w' => ∃ (x8_1 : Int), v8 = .int .i64 x8_1 ∧ Aside0 (slices_Index_int_int.l0 kq l0 a1 (l0.length : Int) x8_1 = some r) ∧ Aside0 (kq ≤ k) ∧ Drawn0 w w')
  case atStart => exact ⟨(0), (by first | rfl | (simp; done) | (simp [*]; done)), H', ⟨Nat.le_refl _⟩, by repeat (first | exact Drawn0.refl _ | apply Drawn0.step)⟩
  case round =>
    clear H'
    try clear p2
    obtain ⟨x8_1, rfl, HA, HK1, ⟨m1, rfl⟩⟩ := hrel
    cases gk with
    | zero => exact absurd HA.out (by simp [slices_Index_int_int.l0])
    | succ k1 =>
      have H := HA.out
      clear HA
      simp only [slices_Index_int_int.l0] at H
      by_cases c3 : x8_1 < (l0.length : Int)
      · rw [if_pos c3] at H
        have c3b0 : decide (x8_1 < (l0.length : Int)) = true := decide_eq_true c3
        clear c3
        by_cases c4 : 0 ≤ x8_1
        · rw [if_pos c4] at H
          have c4b0 : decide (0 ≤ x8_1) = true := decide_eq_true c4
          clear c4
          by_cases c5 : x8_1 < (l0.length : Int)
          · rw [if_pos c5] at H
            have c5b0 : decide (x8_1 < (l0.length : Int)) = true := decide_eq_true c5
            clear c5
            by_cases c6 : a1 = (rd l0 x8_1)
            · rw [if_pos c6] at H
              have c6b0 : (a1 == (rd l0 x8_1)) = true := beq_iff_eq.mpr c6
              have c6b1 : (a1 != (rd l0 x8_1)) = false := bne_eq_false_iff_eq.mpr c6
              clear c6
              obtain rfl := Option.some.inj H
              have p103 : 0 ≤ (x8_1 : Int) := of_decide_eq_true (by first | (with_reducible assumption) | assumption)
              have q103 : x8_1 < (l0.length : Int) := of_decide_eq_true (by first | (with_reducible assumption) | assumption)
              obtain ⟨ad103, e103, hx103_0⟩ := Kd.at_int HR0.out x8_1 p103 q103
              cases e103
              replace p103 := eq_true p103
              replace q103 := eq_true q103
              go_wp2
              go_ret
              exact ⟨by first | rfl | (simp; done) | (simp [*]; done), by repeat (first | exact Drawn0.refl _ | apply Drawn0.step)⟩
            · rw [if_neg c6] at H
              have c6b0 : (a1 == (rd l0 x8_1)) = false := beq_eq_false_iff_ne.mpr c6
              have c6b1 : (a1 != (rd l0 x8_1)) = true := bne_iff_ne.mpr c6
              have H' := Aside0.mk H
              clear H
              have p103 : 0 ≤ (x8_1 : Int) := of_decide_eq_true (by first | (with_reducible assumption) | assumption)
              have q103 : x8_1 < (l0.length : Int) := of_decide_eq_true (by first | (with_reducible assumption) | assumption)
              obtain ⟨ad103, e103, hx103_0⟩ := Kd.at_int HR0.out x8_1 p103 q103
              cases e103
              replace p103 := eq_true p103
              replace q103 := eq_true q103
              go_wp2
              go_roundg k1
              case measure => have := HK1.out; omega
              case rel => exact ⟨(wrap64 (x8_1 + 1)), (by first | rfl | (simp; done) | (simp [*]; done)), H', ⟨by have := HK1.out; omega⟩, by repeat (first | exact Drawn0.refl _ | apply Drawn0.step)⟩
          · rw [if_neg c5] at H
            exact absurd H (by simp)
        · rw [if_neg c4] at H
          exact absurd H (by simp)
      · rw [if_neg c3] at H
        have c3b0 : decide (x8_1 < (l0.length : Int)) = false := decide_eq_false c3
        clear c3
        obtain rfl := Option.some.inj H
        go_wp2
        go_ret
        exact ⟨by first | rfl | (simp; done) | (simp [*]; done), by repeat (first | exact Drawn0.refl _ | apply Drawn0.step)⟩
end Go.Proofs.Ytjbjofmcmjojlab.Wk
end
section
namespace Go.Proofs.Ytjbjofmcmjojlab.Wk
open Go.RowKit Go.Proofs.YtjbjofmcmjojlabW.PrintWords Go.Proofs.YtjbjofmcmjojlabW.PrintLast Go.Proofs.YtjbjofmcmjojlabW.PrintMore
attribute [local go_sem] max2_int min2_int max_two min_two max_three min_three max_four min_four
set_option linter.unusedVariables false
set_option linter.unusedSimpArgs false
def slices_Contains_int_int.f (k : Nat) (l0 : List Int) (a1 : Int) : Option (Bool) := (slices_Index_int_int.f k l0 a1).bind fun t104 => (some (decide (t104 ≥ 0)))
set_option maxHeartbeats 8000000 in
set_option maxRecDepth 100000 in
theorem slices_Contains_int_int.calls (k : Nat) (A0 : Option Addr) (c0 : Nat) (l0 : List Int) (a1 : Int) (r : Bool) (w : World) (hr0 : Kd.C (Kd.int .i64) w A0 l0.length l0) (hc0 : l0.length ≤ c0) (h : slices_Contains_int_int.f k l0 a1 = some r) :
    Calls Try.prog 56 #[.slice A0 l0.length c0, .int .i64 a1] w fun e w' => e = .returned (.bool r) ∧ Drawn0 w w' := by
  have HR0 := Aside0.mk hr0
  have HC0 := Aside0.mk hc0
  clear hr0 hc0
  have H : ((slices_Index_int_int.f k l0 a1).bind fun t104 => (some (decide (t104 ≥ 0)))) = some r := h
  clear h
  replace H := Option.bind_eq_some_iff.mp H
  obtain ⟨t104, A30, H⟩ := H
  replace H : (some (decide (t104 ≥ 0))) = some r := H
  have A3 := Aside0.mk A30
  clear A30
  obtain rfl := Option.some.inj H
  go_enter Try.func56, Try.ntmps56
  go_wp2_with (first | ((with_reducible refine gate_callee (f := 59) rfl ?_); refine goesL_ (some 7) rfl rfl Try.func59 (by kernel_rfl) rfl #[.slice A0 l0.length c0, .int .i64 a1] rfl (by (try simp only [List.map_toArray, List.map_cons, List.map_nil]); first | done | rfl | (simp only [List.length_drop, List.length_take]; rfl)) ?_; (with_reducible refine (slices_Index_int_int.calls k _ _ l0 a1 t104 _ ?side1 ?side2 A3.out).mono ?_); (case side1 => repeat (first | exact HR0.out | (with_reducible refine Kd.C_alloc ?_ _) | (with_reducible refine Kd.C_drewN ?_ _) | (with_reducible refine Kd.C_drew ?_))); (case side2 => exact HC0.out); rintro e w' ⟨rfl, ⟨nd, rfl⟩⟩; refine ⟨_, rfl, ?_⟩))
  go_ret
  exact ⟨by first | rfl | (simp; done) | (simp [*]; done), by repeat (first | exact Drawn0.refl _ | apply Drawn0.step)⟩
theorem Contains_int_total (l : List Int) (x : Int) (hm : l.length ≤ maxLen) : slices_Contains_int_int.f (l.length + 1) l x = some (l.contains x) := by
  unfold maxLen at hm
  have aux : ∀ d k i : Nat, l.length - i = d → d < k → i ≤ l.length → slices_Index_int_int.l0 k l x (l.length : Int) i = some (idxFrom (fun y => y == x) l d i) := by
    intro d
    induction d with
    | zero =>
      intro k i h hk hi
      obtain ⟨k, rfl⟩ : ∃ m, k = m + 1 := ⟨k - 1, by omega⟩
      simp only [slices_Index_int_int.l0, idxFrom]
      rw [if_neg (by omega)]
    | succ d ih =>
      intro k i h hk hi
      obtain ⟨k, rfl⟩ : ∃ m, k = m + 1 := ⟨k - 1, by omega⟩
      simp only [slices_Index_int_int.l0, idxFrom]
      rw [if_pos (by omega), if_pos (by omega), if_pos (by omega)]
      have e : wrap64 ((i : Int) + 1) = ((i + 1 : Nat) : Int) := by unfold wrap64; omega
      rw [e, ih k (i + 1) (by omega) (by omega) (by omega)]
      by_cases hx : x = rd l i
      · rw [if_pos hx, if_pos (by simp [hx])]
      · rw [if_neg hx, if_neg (by simp; exact fun h => hx h.symm)]
  unfold slices_Contains_int_int.f slices_Index_int_int.f
  have h0 : slices_Index_int_int.l0 (l.length + 1) l x (l.length : Int) 0 = _ := aux l.length (l.length + 1) 0 (by omega) (by omega) (by omega)
  rw [h0]
  simp only [Option.bind_some]
  have := idxFrom_any (fun y => y == x) l
  rw [show (decide (idxFrom (fun y => y == x) l l.length 0 ≥ 0)) = decide (0 ≤ idxFrom (fun y => y == x) l l.length 0) from rfl, this]
  congr 1
  exact List.any_beq'
end Go.Proofs.Ytjbjofmcmjojlab.Wk
end
section
namespace Go.Proofs.Ytjbjofmcmjojlab.Wk
open Go.RowKit Go.Proofs.YtjbjofmcmjojlabW.PrintWords Go.Proofs.YtjbjofmcmjojlabW.PrintLast Go.Proofs.YtjbjofmcmjojlabW.PrintMore
attribute [local go_sem] max2_int min2_int max_two min_two max_three min_three max_four min_four
set_option linter.unusedVariables false
set_option linter.unusedSimpArgs false
def badDim (x : Int) : Bool := decide (x < 0) || decide (1048576 < x)
theorem pred27 (w : World) : PredAt 55 #[] badDim w := by
  refine ⟨fun _ _ => rfl, fun x n => ?_⟩
  by_cases h : x < 0
  · go_enter Try.func55, Try.ntmps55
    go_wp2
    go_ret
    exact ⟨by simp [badDim, h], ⟨_, rfl⟩⟩
  · have h1 : decide (x < 0) = false := by simpa using h
    go_enter Try.func55, Try.ntmps55
    go_wp2
    go_ret
    exact ⟨by simp [badDim, h1], ⟨_, rfl⟩⟩
def prodLoop (l : List Int) : Nat → Nat → Int → Int × Int
  | 0, _, n => (n, 0)
  | d + 1, i, n => if n * rd l i > 1048576 then (0, 3) else prodLoop l d (i + 1) (n * rd l i)
def space_Elements.f (l0 : List Int) : Option (Int × Int) :=
  some (if 4 < l0.length ∨ l0.any badDim = true then (0, 2) else if l0.contains 0 = true then (0, 0) else prodLoop l0 l0.length 0 1)
theorem good_rd {l : List Int} (h : l.any badDim = false) (i : Nat) (hi : i < l.length) : 0 ≤ rd l i ∧ rd l i ≤ 1048576 := by
  have e : rd l (i : Int) = l[i] := by simp [rd, hi]
  rw [e]
  have := List.any_eq_false.1 h l[i] (List.getElem_mem hi)
  simp [badDim] at this
  omega
set_option maxHeartbeats 1000000 in
theorem space_Elements.calls (A0 : Option Addr) (c0 : Nat) (l0 : List Int) (r1 : Int) (r2 : Int) (w : World) (hr0 : Kd.C (Kd.int .i64) w A0 l0.length l0) (hc0 : l0.length ≤ c0) (h : space_Elements.f l0 = some (r1, r2)) :
    Calls Try.prog 38 #[.slice A0 l0.length c0] w fun e w' => e = .returned (.tuple #[.int .i64 r1, .int .i64 r2]) ∧ Drawn0 w w' := by
  unfold space_Elements.f at h
  replace h := Option.some.inj h
  have HR0 := Aside0.mk hr0
  have HC0 := Aside0.mk hc0
  clear hr0 hc0
  by_cases h4 : 4 < l0.length
  · rw [if_pos (.inl h4)] at h
    cases h
    have h4' : decide ((l0.length : Int) > 4) = true := by simp; omega
    have h4'' : decide (4 < l0.length) = true := by simp; omega
    go_enter Try.func38, Try.ntmps38
    go_wp2
    go_ret2
    exact ⟨rfl, ⟨0, rfl⟩⟩
  · have hm : l0.length ≤ maxLen := by unfold maxLen; omega
    have HM := Aside0.mk hm
    clear hm
    have h4' : decide ((l0.length : Int) > 4) = false := by simp; omega
    have h4'' : decide (4 < l0.length) = false := by simp; omega
    by_cases hb : l0.any badDim = true
    · rw [if_pos (.inr hb)] at h
      cases h
      have HB := Aside0.mk hb
      clear hb
      go_enter Try.func38, Try.ntmps38
      go_wp2_with (go_at_call 52; refine (ContainsFunc_int 55 #[] badDim _ _ l0 _ (pred27 _) HR0.out HM.out).mono ?_; rintro e w' ⟨rfl, ⟨n2, rfl⟩⟩; rw [HB.out])
      go_ret2
      exact ⟨rfl, ⟨_, rfl⟩⟩
    · have hb : l0.any badDim = false := by simpa using hb
      have HB := Aside0.mk hb
      clear hb
      have HC := Aside0.mk (Contains_int_total l0 0 HM.out)
      rw [if_neg (by rw [HB.out]; simp; omega)] at h
      by_cases hz : l0.contains 0 = true
      · rw [if_pos hz] at h
        cases h
        have HZ := Aside0.mk hz
        clear hz
        go_enter Try.func38, Try.ntmps38
        go_wp2_with (first
          | (go_at_call 52; refine (ContainsFunc_int 55 #[] badDim _ _ l0 _ (pred27 _) HR0.out HM.out).mono ?_; rintro e w' ⟨rfl, ⟨n2, rfl⟩⟩; rw [HB.out])
          | (go_at_call 56; refine (slices_Contains_int_int.calls (l0.length + 1) _ _ l0 0 _ _ (Kd.C_drewN HR0.out _) HC0.out HC.out).mono ?_; rintro e w' ⟨rfl, ⟨n3, rfl⟩⟩; rw [HZ.out]))
        go_ret2
        exact ⟨rfl, ⟨_, rfl⟩⟩
      · have hz : l0.contains 0 = false := by simpa using hz
        have HZ := Aside0.mk hz
        clear hz
        rw [HZ.out, if_neg (by simp)] at h
        have HH := Aside0.mk h
        clear h
        go_enter Try.func38, Try.ntmps38
        go_wp2_with (first
          | (go_at_call 52; refine (ContainsFunc_int 55 #[] badDim _ _ l0 _ (pred27 _) HR0.out HM.out).mono ?_; rintro e w' ⟨rfl, ⟨n2, rfl⟩⟩; rw [HB.out])
          | (go_at_call 56; refine (slices_Contains_int_int.calls (l0.length + 1) _ _ l0 0 _ _ (Kd.C_drewN HR0.out _) HC0.out HC.out).mono ?_; rintro e w' ⟨rfl, ⟨n3, rfl⟩⟩; rw [HZ.out]))
        go_loopw [4, 18] (fun v i wr => ∃ (k : Nat) (n : Int), k ≤ l0.length ∧ i = .int .i64 k ∧ v = .int .i64 n ∧ 0 ≤ n ∧ n ≤ 1048576 ∧ Aside0 (prodLoop l0 (l0.length - k) k n = (r1, r2)) ∧ Drawn0 w wr) (fun _ i _ => l0.length - (intOf i).toNat)
        case atStart => exact ⟨0, 1, Nat.zero_le _, rfl, rfl, by omega, by omega, HH, ⟨_, rfl⟩⟩
        case round =>
          obtain ⟨k, n, hk, rfl, rfl, hn0, hn1, HE, ⟨nd, rfl⟩⟩ := hrel
          by_cases hlt : k < l0.length
          · obtain ⟨ad, e1, hx0⟩ := Kd.at_int HR0.out k (by omega) (by omega)
            cases e1
            have hx : w.cell? (ad.add k) = some (Value.int IntKind.i64 (rd l0 k)) := by simpa using hx0
            clear hx0
            have hg := good_rd HB.out k hlt
            have HN : Aside0 ((if n * rd l0 k > 1048576 then (0, 3) else prodLoop l0 (l0.length - (k + 1)) (k + 1) (n * rd l0 k)) = (r1, r2)) := ⟨by
              rw [← HE.out, show l0.length - k = (l0.length - (k + 1)) + 1 by omega, prodLoop]⟩
            generalize rd l0 k = y at hx HN hg
            have hy1 : 0 ≤ n * y := Int.mul_nonneg hn0 hg.1
            have hy2 : n * y ≤ 1048576 * 1048576 := Int.mul_le_mul hn1 hg.2 hg.1 (by omega)
            have hy3 : wrap64 (n * y) = n * y := by unfold wrap64; omega
            by_cases hbig : n * y > 1048576
            · have HN' := HN.out
              rw [if_pos hbig] at HN'
              cases HN'
              go_wp2
              go_ret2
              exact ⟨rfl, ⟨_, rfl⟩⟩
            · have HN' := HN.out
              rw [if_neg hbig] at HN'
              have HN2 := Aside0.mk HN'
              clear HN HN'
              go_wp2
              go_roundw
              case rel => exact ⟨k + 1, n * y, by omega, by go_num, rfl, hy1, by omega, HN2, ⟨_, rfl⟩⟩
              case measure => simp [intOf]; omega
          · have HN : Aside0 ((n, (0 : Int)) = (r1, r2)) := ⟨by rw [← HE.out, show l0.length - k = 0 by omega, prodLoop]⟩
            have HN' := HN.out
            cases HN'
            go_wp2
            go_ret2
            exact ⟨rfl, ⟨_, rfl⟩⟩
end Go.Proofs.Ytjbjofmcmjojlab.Wk
end
section
namespace Go.Proofs.Ytjbjofmcmjojlab.Wk
open Go.RowKit Go.Proofs.YtjbjofmcmjojlabW.PrintWords Go.Proofs.YtjbjofmcmjojlabW.PrintLast Go.Proofs.YtjbjofmcmjojlabW.PrintMore
attribute [local go_sem] max2_int min2_int max_two min_two max_three min_three max_four min_four
set_option linter.unusedVariables false
set_option linter.unusedSimpArgs false
mutual
def grid_sized.j0 : Nat → Int → List (List Int) → Bool → Option (Int)
  | 0, _, _, _ => none
  | k + 1, x0, x1, x14 => if x14 = true then (some 2) else (grid_sized.l0 k x0 x1 (x1.length : Int) 0)
def grid_sized.l0 : Nat → Int → List (List Int) → Int → Int → Option (Int)
  | 0, _, _, _, _ => none
  | k + 1, x0, x15, x16, x17 => if x17 < x16 then (if 0 ≤ x17 then (if x17 < (x15.length : Int) then ((space_Elements.f (rd_L1 x15 x17)).bind fun bt129 => (if (wrap64 (bt129.1 * x0)) > 65536 then (some 3) else (grid_sized.l0 k x0 x15 x16 (wrap64 (x17 + 1))))) else (none)) else (none)) else (some 0)
end
def grid_sized.f (k : Nat) (a0 : Int) (l1 : List (List Int)) : Option (Int) := if a0 < 1 then (grid_sized.j0 k a0 l1 true) else (grid_sized.j0 k a0 l1 (decide (a0 > 256)))
set_option maxHeartbeats 8000000 in
set_option maxRecDepth 100000 in
theorem grid_sized.calls (k : Nat) (a0 : Int) (A1 : Option Addr) (c1 : Nat) (l1 : List (List Int)) (r : Int) (w : World) (hr1 : Kd.C (Kd.slice 3 (Kd.int .i64)) w A1 l1.length l1) (hc1 : l1.length ≤ c1) (h : grid_sized.f k a0 l1 = some r) :
    Calls Try.prog 37 #[.int .i64 a0, .slice A1 l1.length c1] w fun e w' => e = .returned (.int .i64 r) ∧ Drawn0 w w' := by
  have HR1 := Aside0.mk hr1
  have HC1 := Aside0.mk hc1
  clear hr1 hc1
  have H : (if a0 < 1 then (grid_sized.j0 k a0 l1 true) else (grid_sized.j0 k a0 l1 (decide (a0 > 256)))) = some r := h
  clear h
  have HC3 := Aside0.mk H
  clear H
  go_enter Try.func37, Try.ntmps37
  go_upto_region 1 with (fail)
  go_cut [14] (fun v14 wc => ∃ (kq : Nat) (x14_2 : Bool), v14 = .bool x14_2 ∧ Aside0 (grid_sized.j0 kq a0 l1 x14_2 = some r) ∧ Aside0 (kq ≤ k) ∧ Drawn0 w wc)
  case first =>
    have H := HC3.out
    clear HC3
    by_cases c4 : a0 < 1
    · rw [if_pos c4] at H
      have c4b0 : decide (a0 < 1) = true := decide_eq_true c4
      clear c4
      (first | rw [c4b0] | (simp only [i64_w, i32_w]; rw [c4b0]) | skip)
      have H' := Aside0.mk H
      clear H
      go_wp2
      go_meet
      case rel => exact ⟨_, (true), (by first | rfl | (simp; done) | (simp [*]; done)), H', ⟨by first | omega | exact Nat.le_refl _⟩, by repeat (first | exact Drawn0.refl _ | apply Drawn0.step)⟩
    · rw [if_neg c4] at H
      have c4b0 : decide (a0 < 1) = false := decide_eq_false c4
      clear c4
      (first | rw [c4b0] | (simp only [i64_w, i32_w]; rw [c4b0]) | skip)
      have H' := Aside0.mk H
      clear H
      go_wp2
      go_meet
      case rel => exact ⟨_, (decide (a0 > 256)), (by first | rfl | (simp; done) | (simp [*]; done)), H', ⟨by first | omega | exact Nat.le_refl _⟩, by repeat (first | exact Drawn0.refl _ | apply Drawn0.step)⟩
  case rest =>
    clear HC3
    try clear c1
    try clear p2
    try clear c3
    try clear c4
    try clear c4b0
    obtain ⟨kq, x14_2, rfl, HA, HJ2, ⟨mc2, rfl⟩⟩ := hcut
    cases kq with
    | zero => exact absurd HA.out (by simp [grid_sized.j0])
    | succ kj2 =>
      have H := HA.out
      clear HA
      simp only [grid_sized.j0] at H
      by_cases c5 : x14_2 = true
      · subst c5
        have H1 : (some 2) = some r := by rw [if_pos rfl] at H; exact H
        clear H
        have H := H1
        clear H1
        obtain rfl := Option.some.inj H
        go_wp2
        go_ret
        exact ⟨by first | rfl | (simp; done) | (simp [*]; done), by repeat (first | exact Drawn0.refl _ | apply Drawn0.step)⟩
      · replace c5 := Bool.eq_false_iff.mpr c5
        subst c5
        have H1 : (grid_sized.l0 kj2 a0 l1 (l1.length : Int) 0) = some r := by rw [if_neg (show ¬ (false = true) by decide)] at H; exact H
        clear H
        have H := H1
        clear H1
        have H' := Aside0.mk H
        clear H
        go_wp2
        go_loopg [17] kj2 (fun kq v17 w' => ∃ (x17_2 : Int), v17 = .int .i64 x17_2 ∧ Aside0 (grid_sized.l0 kq a0 l1 (l1.length : Int) x17_2 = some r) ∧ Aside0 (kq ≤ kj2) ∧ Drawn0 w w')
        case atStart => exact ⟨(0), (by first | rfl | (simp; done) | (simp [*]; done)), H', ⟨Nat.le_refl _⟩, by repeat (first | exact Drawn0.refl _ | apply Drawn0.step)⟩
        case round =>
          clear H'
          try clear c1
          try clear c2
          try clear p2
          try clear c3
          try clear c4
          try clear c4b0
          try clear c5
          try clear p2
          obtain ⟨x17_2, rfl, HA, HK2, ⟨m2, rfl⟩⟩ := hrel
          cases gk with
          | zero => exact absurd HA.out (by simp [grid_sized.l0])
          | succ k2 =>
            have H := HA.out
            clear HA
            simp only [grid_sized.l0] at H
            by_cases c6 : x17_2 < (l1.length : Int)
            · rw [if_pos c6] at H
              have c6b0 : decide (x17_2 < (l1.length : Int)) = true := decide_eq_true c6
              clear c6
              by_cases c7 : 0 ≤ x17_2
              · rw [if_pos c7] at H
                have c7b0 : decide (0 ≤ x17_2) = true := decide_eq_true c7
                clear c7
                by_cases c8 : x17_2 < (l1.length : Int)
                · rw [if_pos c8] at H
                  have c8b0 : decide (x17_2 < (l1.length : Int)) = true := decide_eq_true c8
                  clear c8
                  replace H := Option.bind_eq_some_iff.mp H
                  obtain ⟨⟨t129, t130⟩, A90, H⟩ := H
                  replace H : (if (wrap64 (t129 * a0)) > 65536 then (some 3) else (grid_sized.l0 k2 a0 l1 (l1.length : Int) (wrap64 (x17_2 + 1)))) = some r := H
                  have A9 := Aside0.mk A90
                  clear A90
                  by_cases c10 : (wrap64 (t129 * a0)) > 65536
                  · rw [if_pos c10] at H
                    have c10b0 : decide (65536 < (wrap64 (t129 * a0))) = true := decide_eq_true c10
                    clear c10
                    obtain rfl := Option.some.inj H
                    have p128 : 0 ≤ (x17_2 : Int) := of_decide_eq_true (by first | (with_reducible assumption) | assumption)
                    have q128 : x17_2 < (l1.length : Int) := of_decide_eq_true (by first | (with_reducible assumption) | assumption)
                    obtain ⟨ad128, A128_0, c128_0, e128, hx128_0, hl128_0, hi128_0⟩ := at_L1 HR1.out x17_2 p128 q128
                    cases e128
                    have HR128_0 := Aside0.mk hi128_0
                    have HC128_0 := Aside0.mk hl128_0
                    clear hi128_0 hl128_0
                    replace p128 := eq_true p128
                    replace q128 := eq_true q128
                    go_wp2_with (first | ((with_reducible refine gate_callee (f := 38) rfl ?_); refine goesL_ (some 23) rfl rfl Try.func38 (by kernel_rfl) rfl #[.slice A128_0 (rd_L1 l1 x17_2).length c128_0] rfl (by (try simp only [List.map_toArray, List.map_cons, List.map_nil]); first | done | rfl | (simp only [List.length_drop, List.length_take]; rfl)) ?_; (with_reducible refine (space_Elements.calls _ _ (rd_L1 l1 x17_2) t129 t130 _ ?side1 ?side2 A9.out).mono ?_); (case side1 => repeat (first | exact HR128_0.out | (with_reducible refine Kd.C_alloc ?_ _) | (with_reducible refine Kd.C_drewN ?_ _) | (with_reducible refine Kd.C_drew ?_))); (case side2 => exact HC128_0.out); rintro e w' ⟨rfl, ⟨nd, rfl⟩⟩; refine ⟨_, rfl, ?_⟩))
                    go_ret
                    exact ⟨by first | rfl | (simp; done) | (simp [*]; done), by repeat (first | exact Drawn0.refl _ | apply Drawn0.step)⟩
                  · rw [if_neg c10] at H
                    have c10b0 : decide (65536 < (wrap64 (t129 * a0))) = false := decide_eq_false c10
                    clear c10
                    have H' := Aside0.mk H
                    clear H
                    have p128 : 0 ≤ (x17_2 : Int) := of_decide_eq_true (by first | (with_reducible assumption) | assumption)
                    have q128 : x17_2 < (l1.length : Int) := of_decide_eq_true (by first | (with_reducible assumption) | assumption)
                    obtain ⟨ad128, A128_0, c128_0, e128, hx128_0, hl128_0, hi128_0⟩ := at_L1 HR1.out x17_2 p128 q128
                    cases e128
                    have HR128_0 := Aside0.mk hi128_0
                    have HC128_0 := Aside0.mk hl128_0
                    clear hi128_0 hl128_0
                    replace p128 := eq_true p128
                    replace q128 := eq_true q128
                    go_wp2_with (first | ((with_reducible refine gate_callee (f := 38) rfl ?_); refine goesL_ (some 23) rfl rfl Try.func38 (by kernel_rfl) rfl #[.slice A128_0 (rd_L1 l1 x17_2).length c128_0] rfl (by (try simp only [List.map_toArray, List.map_cons, List.map_nil]); first | done | rfl | (simp only [List.length_drop, List.length_take]; rfl)) ?_; (with_reducible refine (space_Elements.calls _ _ (rd_L1 l1 x17_2) t129 t130 _ ?side1 ?side2 A9.out).mono ?_); (case side1 => repeat (first | exact HR128_0.out | (with_reducible refine Kd.C_alloc ?_ _) | (with_reducible refine Kd.C_drewN ?_ _) | (with_reducible refine Kd.C_drew ?_))); (case side2 => exact HC128_0.out); rintro e w' ⟨rfl, ⟨nd, rfl⟩⟩; refine ⟨_, rfl, ?_⟩))
                    go_roundg k2
                    case measure => have := HJ2.out; have := HK2.out; omega
                    case rel => exact ⟨(wrap64 (x17_2 + 1)), (by first | rfl | (simp; done) | (simp [*]; done)), H', ⟨by have := HJ2.out; have := HK2.out; omega⟩, by repeat (first | exact Drawn0.refl _ | apply Drawn0.step)⟩
                · rw [if_neg c8] at H
                  exact absurd H (by simp)
              · rw [if_neg c7] at H
                exact absurd H (by simp)
            · rw [if_neg c6] at H
              have c6b0 : decide (x17_2 < (l1.length : Int)) = false := decide_eq_false c6
              clear c6
              obtain rfl := Option.some.inj H
              go_wp2
              go_ret
              exact ⟨by first | rfl | (simp; done) | (simp [*]; done), by repeat (first | exact Drawn0.refl _ | apply Drawn0.step)⟩
end Go.Proofs.Ytjbjofmcmjojlab.Wk
end
section
namespace Go.Proofs.Ytjbjofmcmjojlab.Wk
open Go.RowKit Go.Proofs.YtjbjofmcmjojlabW.PrintWords Go.Proofs.YtjbjofmcmjojlabW.PrintLast Go.Proofs.YtjbjofmcmjojlabW.PrintMore
attribute [local go_sem] max2_int min2_int max_two min_two max_three min_three max_four min_four
set_option linter.unusedVariables false
set_option linter.unusedSimpArgs false
def bits_Mul64.f (a0 : Int) (a1 : Int) : Option (Int × Int) := some (IntKind.u64.wrap ((IntKind.u64.wrap ((IntKind.u64.wrap ((a0 / 4294967296) * (a1 / 4294967296))) + ((IntKind.u64.wrap ((IntKind.u64.wrap ((a0 / 4294967296) * (Go.bits .and .u64 a1 4294967295))) + ((IntKind.u64.wrap ((Go.bits .and .u64 a0 4294967295) * (Go.bits .and .u64 a1 4294967295))) / 4294967296))) / 4294967296))) + ((IntKind.u64.wrap ((Go.bits .and .u64 (IntKind.u64.wrap ((IntKind.u64.wrap ((a0 / 4294967296) * (Go.bits .and .u64 a1 4294967295))) + ((IntKind.u64.wrap ((Go.bits .and .u64 a0 4294967295) * (Go.bits .and .u64 a1 4294967295))) / 4294967296))) 4294967295) + (IntKind.u64.wrap ((Go.bits .and .u64 a0 4294967295) * (a1 / 4294967296))))) / 4294967296)), IntKind.u64.wrap (a0 * a1))
set_option maxHeartbeats 8000000 in
set_option maxRecDepth 100000 in
theorem bits_Mul64.calls (a0 : Int) (a1 : Int) (r1 : Int) (r2 : Int) (w : World) (h : bits_Mul64.f a0 a1 = some (r1, r2)) :
    Calls Try.prog 63 #[.int .u64 a0, .int .u64 a1] w fun e w' => e = .returned (.tuple #[.int .u64 r1, .int .u64 r2]) ∧ Drawn0 w w' := by
  have H : (some (IntKind.u64.wrap ((IntKind.u64.wrap ((IntKind.u64.wrap ((a0 / 4294967296) * (a1 / 4294967296))) + ((IntKind.u64.wrap ((IntKind.u64.wrap ((a0 / 4294967296) * (Go.bits .and .u64 a1 4294967295))) + ((IntKind.u64.wrap ((Go.bits .and .u64 a0 4294967295) * (Go.bits .and .u64 a1 4294967295))) / 4294967296))) / 4294967296))) + ((IntKind.u64.wrap ((Go.bits .and .u64 (IntKind.u64.wrap ((IntKind.u64.wrap ((a0 / 4294967296) * (Go.bits .and .u64 a1 4294967295))) + ((IntKind.u64.wrap ((Go.bits .and .u64 a0 4294967295) * (Go.bits .and .u64 a1 4294967295))) / 4294967296))) 4294967295) + (IntKind.u64.wrap ((Go.bits .and .u64 a0 4294967295) * (a1 / 4294967296))))) / 4294967296)), IntKind.u64.wrap (a0 * a1))) = some (r1, r2) := h
  clear h
  simp only [Option.some.injEq, Prod.mk.injEq] at H
  obtain ⟨rfl, rfl⟩ := H
  go_enter Try.func63, Try.ntmps63
  go_wp2
  go_ret2
  exact ⟨by first | rfl | (simp; done) | (simp [*]; done), by repeat (first | exact Drawn0.refl _ | apply Drawn0.step)⟩
end Go.Proofs.Ytjbjofmcmjojlab.Wk
end
section
namespace Go.Proofs.Ytjbjofmcmjojlab.Wk
open Go.RowKit Go.Proofs.YtjbjofmcmjojlabW.PrintWords Go.Proofs.YtjbjofmcmjojlabW.PrintLast Go.Proofs.YtjbjofmcmjojlabW.PrintMore
attribute [local go_sem] max2_int min2_int max_two min_two max_three min_three max_four min_four
set_option linter.unusedVariables false
set_option linter.unusedSimpArgs false
def bits_Mul.f (a0 : Int) (a1 : Int) : Option (Int × Int) := (bits_Mul64.f a0 a1).bind fun bt131 => (some (bt131.1, bt131.2))
set_option maxHeartbeats 8000000 in
set_option maxRecDepth 100000 in
theorem bits_Mul.calls (a0 : Int) (a1 : Int) (r1 : Int) (r2 : Int) (w : World) (h : bits_Mul.f a0 a1 = some (r1, r2)) :
    Calls Try.prog 60 #[.int .u64 a0, .int .u64 a1] w fun e w' => e = .returned (.tuple #[.int .u64 r1, .int .u64 r2]) ∧ Drawn0 w w' := by
  have H : ((bits_Mul64.f a0 a1).bind fun bt131 => (some (bt131.1, bt131.2))) = some (r1, r2) := h
  clear h
  replace H := Option.bind_eq_some_iff.mp H
  obtain ⟨⟨t131, t132⟩, A30, H⟩ := H
  replace H : (some (t131, t132)) = some (r1, r2) := H
  have A3 := Aside0.mk A30
  clear A30
  simp only [Option.some.injEq, Prod.mk.injEq] at H
  obtain ⟨rfl, rfl⟩ := H
  go_enter Try.func60, Try.ntmps60
  go_wp2_with (first | ((with_reducible refine gate_callee (f := 63) rfl ?_); refine goesL_ (some 25) rfl rfl Try.func63 (by kernel_rfl) rfl #[.int .u64 a0, .int .u64 a1] rfl (by (try simp only [List.map_toArray, List.map_cons, List.map_nil]); first | done | rfl | (simp only [List.length_drop, List.length_take]; rfl)) ?_; (with_reducible refine (bits_Mul64.calls a0 a1 t131 t132 _ A3.out).mono ?_); rintro e w' ⟨rfl, ⟨nd, rfl⟩⟩; refine ⟨_, rfl, ?_⟩))
  go_ret2
  exact ⟨by first | rfl | (simp; done) | (simp [*]; done), by repeat (first | exact Drawn0.refl _ | apply Drawn0.step)⟩
end Go.Proofs.Ytjbjofmcmjojlab.Wk
end
section
namespace Go.Proofs.Ytjbjofmcmjojlab.Wk
open Go.RowKit Go.Proofs.YtjbjofmcmjojlabW.PrintWords Go.Proofs.YtjbjofmcmjojlabW.PrintLast Go.Proofs.YtjbjofmcmjojlabW.PrintMore
attribute [local go_sem] max2_int min2_int max_two min_two max_three min_three max_four min_four
set_option linter.unusedVariables false
set_option linter.unusedSimpArgs false
section
open Go.Proofs.YtjbjofmcmjojlabQ
def repB (n : Nat) (l : List Int) : List Int := (List.replicate n l).flatten
theorem repB_length (n : Nat) (l : List Int) : (repB n l).length = n * l.length := by simp [repB]
theorem repB_add (m n : Nat) (l : List Int) : repB (m + n) l = repB m l ++ repB n l := by simp only [repB]; rw [← List.replicate_append_replicate, List.flatten_append]
theorem repB_take (m n : Nat) (l : List Int) (h : m ≤ n) : (repB n l).take (m * l.length) = repB m l := by
  obtain ⟨d, rfl⟩ := Nat.exists_eq_add_of_le h
  rw [repB_add, List.take_append_of_le_length (by rw [repB_length]; exact Nat.le_refl _), List.take_of_length_le (by rw [repB_length]; exact Nat.le_refl _)]
theorem and32 (a : Int) (h0 : 0 ≤ a) (h1 : a < 4294967296) : Go.bits .and .u64 a 4294967295 = a := by
  have := Go.bits_mask .u64 64 (by decide) (fun n h0 h1 => by simp [IntKind.wrap, IntKind.signed, IntKind.bits]; omega) 32 (by decide) a h0 (by omega)
  rw [show ((2 : Int) ^ 32 - 1) = 4294967295 by decide] at this
  rw [this]
  omega
theorem mul_eq (a b : Int) (h0 : 0 ≤ a) (h1 : a < 4294967296) (h2 : 0 ≤ b) (h3 : b < 4294967296) (h : a * b < 4294967296) : bits_Mul.f a b = some (0, a * b) := by
  have hab : 0 ≤ a * b := Int.mul_nonneg h0 h2
  have ea : a / 4294967296 = 0 := Int.ediv_eq_zero_of_lt h0 h1
  have eb : b / 4294967296 = 0 := Int.ediv_eq_zero_of_lt h2 h3
  have w : ∀ x : Int, 0 ≤ x → x < 18446744073709551616 → IntKind.u64.wrap x = x := fun x h0 h1 => by
    simp [IntKind.wrap, IntKind.signed, IntKind.bits]
    omega
  unfold bits_Mul.f bits_Mul64.f
  simp only [and32 a h0 h1, and32 b h2 h3, ea, eb, Int.zero_mul, Int.mul_zero, Int.zero_add, Int.add_zero, Option.bind_some, w 0 (by omega) (by omega), w (a * b) hab (by omega)]
  have e1 : a * b / 4294967296 = 0 := Int.ediv_eq_zero_of_lt hab h
  simp only [e1, w 0 (by omega) (by omega), and32 0 (by omega) (by omega), Int.zero_add, Int.zero_ediv]
def bytes_Repeat.f (l0 : List Int) (a1 : Int) : Option (List Int) := if 1 ≤ l0.length ∧ 0 ≤ a1 ∧ l0.length * a1.toNat ≤ 65536 ∧ l0.length ≤ 65536 ∧ a1 ≤ 1048576 then some (repB a1.toNat l0) else none
set_option maxHeartbeats 4000000 in
set_option maxRecDepth 10000 in
theorem bytes_Repeat.calls (A0 : Option Addr) (c0 : Nat) (l0 : List Int) (a1 : Int) (r : List Int) (w : World) (hr0 : Kd.C (Kd.int .u8) w A0 l0.length l0) (hc0 : l0.length ≤ c0) (h : bytes_Repeat.f l0 a1 = some r) :
    Calls Try.prog 57 #[.slice A0 l0.length c0, .int .i64 a1] w fun e w' => ∃ g, e = .returned (.slice (some ⟨g, 0, none⟩) r.length r.length) ∧ w.heap.size ≤ g ∧ Buf 5 w' g r.length r ∧ Below w.heap.size w w' := by
  unfold bytes_Repeat.f at h
  by_cases hc : 1 ≤ l0.length ∧ 0 ≤ a1 ∧ l0.length * a1.toNat ≤ 65536 ∧ l0.length ≤ 65536 ∧ a1 ≤ 1048576
  case neg => rw [if_neg hc] at h; cases h
  rw [if_pos hc] at h
  cases h
  obtain ⟨h1, h2, h3, h4, h5⟩ := hc
  obtain ⟨m, rfl⟩ := Int.eq_ofNat_of_zero_le h2
  rw [Int.toNat_natCast] at *
  have HR0 := Aside0.mk hr0
  obtain ⟨ad, rfl, _⟩ := (Kd.reads_of_C (d := (0 : Int)) hr0).2.2 (by omega)
  obtain ⟨_, _, had⟩ := Kd.reads_of_C (d := (0 : Int)) hr0
  obtain ⟨ad', e', hcell⟩ := had (by omega)
  cases e'
  have HCELL := Aside0.mk hcell
  clear hr0 hcell had
  obtain ⟨L, hL⟩ : ∃ L, l0.length = L := ⟨_, rfl⟩
  by_cases hm : m = 0
  · subst hm
    go_enter Try.func57, Try.ntmps57
    go_wp2
    go_ret
    have hr : repB 0 l0 = [] := rfl
    rw [hr]
    exact ⟨w.heap.size, rfl, Nat.le_refl _, ⟨Nat.le_refl _, by simp, #[], World.alloc_heap_new w _, by simp, rfl⟩, below_alloc (Below.refl _ _) _⟩
  · have hn1 : 1 ≤ L * m := by have : 1 * 1 ≤ L * m := Nat.mul_le_mul (by omega) (by omega); omega
    have hn2 : L * m ≤ 65536 := by rw [← hL]; exact h3
    have hL1 : 1 ≤ L := by omega
    have hL2 : L ≤ 65536 := by omega
    have hm2 : m ≤ 65536 := by have : 1 * m ≤ L * m := Nat.mul_le_mul (by omega) (Nat.le_refl _); omega
    have w1 : IntKind.u64.wrap (L : Int) = L := by simp [IntKind.wrap, IntKind.signed, IntKind.bits]; omega
    have w2 : IntKind.u64.wrap (m : Int) = m := by simp [IntKind.wrap, IntKind.signed, IntKind.bits]; omega
    obtain ⟨n, hn⟩ : ∃ n, L * m = n := ⟨_, rfl⟩
    have hnz : (L : Int) * (m : Int) = (n : Int) := by rw [← hn]; push_cast; rfl
    rw [hn] at hn1 hn2
    have hMul := Aside0.mk (mul_eq (L : Int) (m : Int) (by omega) (by omega) (by omega) (by omega) (by rw [hnz]; omega))
    rw [hnz] at hMul
    have w3 : wrap64 (n : Int) = n := by unfold wrap64; omega
    have b1 : ((m : Int) == 0) = false := by simp; omega
    have b2 : decide ((m : Int) < 0) = false := by simp
    have b3 : decide ((n : Int) > 9223372036854775807) = false := by simp; omega
    have b4 : ((L : Int) == 0) = false := by simp; omega
    go_enter Try.func57, Try.ntmps57
    rw [hL]
    go_upto_region 11 with (go_at_call 60; refine (bits_Mul.calls (L : Int) (m : Int) 0 (n : Int) _ hMul.out).mono ?_; rintro e_ w5 ⟨rfl, ⟨n5, rfl⟩⟩)
    go_upto_if 42 with (fail)
    go_cut [8] (fun v8 W => ∃ q : Nat, v8 = .int .i64 ((L * q : Nat) : Int) ∧ 1 ≤ q ∧ W = w.drewN n5)
    case first =>
      by_cases hb : n > 8192
      · have d1 : decide ((n : Int) > 8192) = true := by simp; omega
        have d0 : decide (8192 < n) = true := by simp; omega
        obtain ⟨q, hq⟩ : ∃ q, 8192 / L = q := ⟨_, rfl⟩
        have hqi : (8192 : Int) / (L : Int) = (q : Int) := by rw [← hq]; rfl
        have hq2 : q * L ≤ 8192 := by rw [← hq]; exact Nat.div_mul_le_self _ _
        have w6 : wrap64 (q : Int) = q := by
          have : q ≤ 8192 := by rw [← hq]; exact Nat.div_le_self _ _
          unfold wrap64; omega
        obtain ⟨p, hp⟩ : ∃ p, L * q = p := ⟨_, rfl⟩
        have hq3 : (q : Int) * (L : Int) = (p : Int) := by rw [← hp]; push_cast; exact Int.mul_comm _ _
        have w7 : wrap64 (p : Int) = p := by rw [Nat.mul_comm, hp] at hq2; unfold wrap64; omega
        have HP := Aside0.mk (show L * q = p ∧ q * L ≤ 8192 ∧ L * m = n ∧ 8192 / L = q from ⟨hp, hq2, hn, hq⟩)
        clear hp hq2 hn hq hnz
        by_cases h0 : p = 0
        · have e0 : ((p : Int) == 0) = true := by simp; exact h0
          clear h0
          go_wp2
          go_meet
          case rel => exact ⟨1, by rw [Nat.mul_one], Nat.le_refl _, rfl⟩
        · have e0 : ((p : Int) == 0) = false := by simp; exact h0
          have HZ := Aside0.mk h0
          clear h0
          go_wp2
          go_meet
          case rel => exact ⟨q, by rw [HP.out.1, w7], Nat.pos_of_ne_zero (fun e => HZ.out (by rw [← HP.out.1, e, Nat.mul_zero])), rfl⟩
      · have d1 : decide ((n : Int) > 8192) = false := by simp; omega
        have d0 : decide (8192 < n) = false := by simp; omega
        go_wp2
        go_meet
        case rel => exact ⟨m, by rw [hn], by omega, rfl⟩
    case rest =>
      obtain ⟨q, rfl, hq, rfl⟩ := hcut
      obtain ⟨M, hM⟩ : ∃ M, L * q = M := ⟨_, rfl⟩
      rw [hM]
      clear w1 w2 b1 b2 b3 b4 hMul
      obtain ⟨cs, hrunM, hle, hcmax⟩ := Go.Lib.run_makeNoZero (P := Try.prog) (w.drewN n5) #[3] 31 5 Try.underlying31 n (by omega)
      have hcall : (callFunc 61 #[.int .i64 (n : Int)]).run Try.prog (w.drewN n5) = .ok (.value (.slice (some ⟨w.heap.size, 0, none⟩) n cs.size)) (((w.drewN n5).alloc (.cells cs 5)).drewN 2) := by
        rw [run_callFunc_extern Try.func61 (by kernel_rfl) (by kernel_rfl) (by kernel_rfl) (e := Extern.BytealgMakeNoZero.makeNoZero #[3] #[31]) (by kernel_rfl), hrunM]
        rfl
      clear hrunM
      have i0 : (0 : Int) ≤ (n : Int) := by omega
      have i1 : (n : Int) ≤ (cs.size : Int) := by omega
      have B0 : Buf 5 (((w.drewN n5).alloc (.cells cs 5)).drewN 2) w.heap.size n [] := ⟨Nat.zero_le _, by omega, cs, World.alloc_heap_new w _, hle, rfl⟩
      have HB0 : Below w.heap.size w (((w.drewN n5).alloc (.cells cs 5)).drewN 2) := pw_below_drewN (below_alloc (pw_below_drewN (Below.refl _ _) _) _) _
      generalize hW0 : (((w.drewN n5).alloc (.cells cs 5)).drewN 2) = W0 at B0 HB0 hcall
      have hL1n : L ≤ n := by rw [← hn]; exact Nat.le_mul_of_pos_right _ (by omega)
      obtain ⟨W1, hr1, B1, hg1⟩ := B0.copy (P := Try.prog) (t := 31) (t' := 31) (ty := 3) (o := 0) (dLen := n) (dCap := n) (m := L) (c := c0) (ad := ad) (ys := l0) Try.underlying31 (by kernel_rfl) (Nat.zero_le _) (by omega) (by omega)
        (fun j hj => by rw [HB0.cell (World.block_lt_of_cell? w _ (HCELL.out j hj))]; exact HCELL.out j hj)
      have HB1 := Aside0.mk (HB0.grown hg1 HB0.size (fun k e => by cases e; exact Nat.le_refl _))
      have BF1 := Aside0.mk (show Buf 5 W1 w.heap.size n (repB 1 l0) from by simpa [laid, repB] using B1)
      rw [hL] at hr1
      clear B0 HB0 B1 hg1
      go_upto_region 17 with (fail)
      clear hcall hW0
      go_wp2_with (at_builtin; refine wpList_copy rfl _ _ 31 31 rfl _ _ rfl rfl hr1 ?_)
      clear hr1
      go_loopg [10] m (fun kq v10 W => ∃ p : Nat, v10 = .int .i64 ((L * p : Nat) : Int) ∧ Aside0 (1 ≤ p ∧ p ≤ m ∧ m ≤ p + kq) ∧ Aside0 (Buf 5 W w.heap.size n (repB p l0)) ∧ Aside0 (Below w.heap.size w W))
      case atStart => exact ⟨1, by rw [Nat.mul_one], ⟨by omega, by omega, by omega⟩, BF1, HB1⟩
      case round =>
        obtain ⟨p, rfl, HP, BF, HB⟩ := hrel
        have hB := Aside0.mk (show L * p ≤ n from by rw [← hn]; exact Nat.mul_le_mul (Nat.le_refl _) HP.out.2.1)
        obtain ⟨B, hBe⟩ : ∃ B, L * p = B := ⟨_, rfl⟩
        rw [hBe] at hB ⊢
        by_cases hp : p < m
        · have hLp : L * p < n := by rw [← hn]; exact Nat.mul_lt_mul_of_pos_left hp (by omega)
          rw [hBe] at hLp
          have d1 : decide ((B : Int) < (n : Int)) = true := by simp; omega
          obtain ⟨C, hC⟩ : ∃ C, min M B = C := ⟨_, rfl⟩
          have hmin : (if M < B then (M : Int) else (B : Int)) = (C : Int) := by
            split <;> omega
          obtain ⟨c, hc⟩ : ∃ c, min q p = c := ⟨_, rfl⟩
          have hCc : L * c = C := by
            rw [← hc, ← hC, ← hM, ← hBe]
            rcases Nat.le_total q p with h | h
            · rw [Nat.min_eq_left h, Nat.min_eq_left (Nat.mul_le_mul (Nat.le_refl _) h)]
            · rw [Nat.min_eq_right h, Nat.min_eq_right (Nat.mul_le_mul (Nat.le_refl _) h)]
          have i2 : (0 : Int) ≤ (B : Int) := by omega
          have i3 : (B : Int) ≤ (n : Int) := by omega
          have i4 : (0 : Int) ≤ (C : Int) := by omega
          have i5 : (C : Int) ≤ (n : Int) := by omega
          go_upto_region 20 with (fail)
          have BD : Buf 5 wr.drew w.heap.size n (repB p l0) := BF.out.step rfl
          have hrl : (repB p l0).length = B := by rw [repB_length, hL, Nat.mul_comm, hBe]
          have hcp : c ≤ p := by omega
          obtain ⟨d, hd⟩ : ∃ d, min c (m - p) = d := ⟨_, rfl⟩
          have hLd : L * d = min C (n - B) := by
            rw [← hd, ← hn, ← hBe, ← hCc, ← Nat.mul_sub]
            rcases Nat.le_total c (m - p) with h | h
            · rw [Nat.min_eq_left h, Nat.min_eq_left (Nat.mul_le_mul (Nat.le_refl _) h)]
            · rw [Nat.min_eq_right h, Nat.min_eq_right (Nat.mul_le_mul (Nat.le_refl _) h)]
          have hdl : (repB d l0).length = L * d := by rw [repB_length, hL, Nat.mul_comm]
          obtain ⟨W2, hr2, B2, hg2⟩ := BD.copy (P := Try.prog) (t := 31) (t' := 31) (ty := 3) (o := B) (dLen := n - B) (dCap := n - B) (m := C) (c := n) (ad := ⟨w.heap.size, 0, none⟩) (ys := repB d l0) Try.underlying31 (by kernel_rfl) (by omega) (by rw [hdl, hLd]) (by rw [hdl]; omega)
            (fun j hj => by
              have hj2 : j < (repB p l0).length := by rw [hrl]; omega
              have hc2 := BD.cell j hj2
              have he : (⟨w.heap.size, 0, none⟩ : Addr).add j = ⟨w.heap.size, j, none⟩ := by
                by_cases h0 : j = 0
                · subst h0; simp [Addr.add]
                · simp [Addr.add, h0]
              rw [he, hc2]
              have : (repB p l0).take (repB d l0).length = repB d l0 := by rw [repB_length]; exact repB_take d p l0 (by omega)
              rw [← this]
              simp [List.getD_eq_getElem?_getD, List.getElem?_take, hj])
          have hlaid : laid (repB p l0) B (repB d l0) = repB (p + d) l0 := by rw [← hrl, laid_end, ← repB_add]
          rw [hlaid] at B2
          rw [hdl] at hr2
          have B2' := Aside0.mk B2
          have HB2 := Aside0.mk ((below_drew1 HB.out).grown hg2 (below_drew1 HB.out).size (fun k e => by cases e; exact Nat.le_refl _))
          have HD := Aside0.mk (show L * d = min C (n - B) ∧ min c (m - p) = d ∧ 1 ≤ c from ⟨hLd, hd, by have := HP.out.1; omega⟩)
          obtain ⟨D, hD⟩ : ∃ D, L * d = D := ⟨_, rfl⟩
          rw [hD] at hr2
          have HD2 := Aside0.mk hD
          have hnB : (n = B) = False := eq_false (by omega)
          have AR := Aside0.mk (show L * p = B ∧ L * m = n ∧ L * c = C ∧ min M B = C ∧ p < m ∧ B < n ∧ c ≤ p ∧ n ≤ 65536 from ⟨hBe, hn, hCc, hC, hp, hLp, hcp, hn2⟩)
          clear BD hrl hdl hg2 hlaid B2 hLd hd hD hBe hn hCc hC hp hLp hcp hM hc hnz hq hm hL1 hL2 hm2 hn1 hn2 hL1n hle hcmax i0 i1 h1 h2 h3 h4 h5 hL
          refine start_ (n := 10) (S := fun _ => True) (ds := []) #[false, false, false, false, false, false, false, false, false, false] (by kernel_rfl) rfl rfl trivial (fun hHeld => ?_)
          refine pure_ (i := 0) (N := some 67) (v := ?_) (a' := ?_) #[true, false, false, false, false, false, false, false, false, false] rfl rfl (by kernel_rfl) (fun _ _ _ h => h) (Or.inl ⟨by rfl, ?_⟩) ?_ ?_
          rotate_left
          · intro w'
            go_simp
            with_reducible rfl
          rotate_left
          · simp only [Act.put, List.setIfInBounds_toArray, List.set_cons_zero, List.set_cons_succ, i64_w, i32_w]
            rfl
          refine pure_ (i := 1) (N := some 68) (v := ?_) (a' := ?_) #[true, true, false, false, false, false, false, false, false, false] rfl rfl (by kernel_rfl) (fun _ _ _ h => h) (Or.inl ⟨by rfl, ?_⟩) ?_ ?_
          rotate_left
          · intro w'
            go_simp
            with_reducible rfl
          rotate_left
          · simp only [Act.put, List.setIfInBounds_toArray, List.set_cons_zero, List.set_cons_succ, i64_w, i32_w]
            rfl
          refine pure_ (i := 2) (N := some 69) (v := ?_) (a' := ?_) #[true, true, true, false, false, false, false, false, false, false] rfl rfl (by kernel_rfl) (fun _ _ _ h => h) (Or.inl ⟨by rfl, ?_⟩) ?_ ?_
          rotate_left
          · intro w'
            go_simp
            with_reducible rfl
          rotate_left
          · simp only [Act.put, List.setIfInBounds_toArray, List.set_cons_zero, List.set_cons_succ, i64_w, i32_w]
            rfl
          refine pure_ (i := 4) (N := some 71) (v := ?_) (a' := ?_) #[true, true, true, false, true, false, false, false, false, false] rfl rfl (by kernel_rfl) (fun _ _ _ h => h) (Or.inl ⟨by rfl, ?_⟩) ?_ ?_
          rotate_left
          · intro w'
            go_simp
            with_reducible rfl
          rotate_left
          · simp only [Act.put, List.setIfInBounds_toArray, List.set_cons_zero, List.set_cons_succ, i64_w, i32_w]
            rfl
          refine pure_ (i := 5) (N := some 72) (v := ?_) (a' := ?_) #[true, true, true, false, true, true, false, false, false, false] rfl rfl (by kernel_rfl) (fun _ _ _ h => h) (Or.inl ⟨by rfl, ?_⟩) ?_ ?_
          rotate_left
          · intro w'
            go_simp
            with_reducible rfl
          rotate_left
          · simp only [Act.put, List.setIfInBounds_toArray, List.set_cons_zero, List.set_cons_succ, i64_w, i32_w]
            rfl
          refine pure_ (i := 3) (N := some 70) (v := ?_) (a' := ?_) #[true, true, true, true, true, true, false, false, false, false] rfl rfl (by kernel_rfl) (fun _ _ _ h => h) (Or.inl ⟨by rfl, ?_⟩) ?_ ?_
          rotate_left
          · intro w'
            go_simp
            with_reducible rfl
          rotate_left
          · simp only [Act.put, List.setIfInBounds_toArray, List.set_cons_zero, List.set_cons_succ, i64_w, i32_w]
            rfl
          refine pure_ (i := 6) (N := some 73) (v := ?_) (a' := ?_) #[true, true, true, true, true, true, true, false, false, false] rfl rfl (by kernel_rfl) (fun _ _ _ h => h) (Or.inl ⟨by rfl, ?_⟩) ?_ ?_
          rotate_left
          · intro w'
            go_simp
            with_reducible rfl
          rotate_left
          · simp only [Act.put, List.setIfInBounds_toArray, List.set_cons_zero, List.set_cons_succ, i64_w, i32_w]
            rfl
          refine one_ (i := 7) (N := some 74) #[true, true, true, true, true, true, true, true, false, false] rfl rfl (by kernel_rfl) (by decide) (fun K hK => ?_)
          refine step_copy rfl (.tmp 70) (.tmp 73) 31 31 rfl (.slice (some ⟨w.heap.size, B, none⟩) (n - B) (n - B)) (.slice (some ⟨w.heap.size, 0, none⟩) C n) rfl rfl hr2 ?_
          refine hK.out _ _ trivial (fun _ => ?_)
          clear hK K hr2
          have hwr : wrap64 ((B : Int) + (D : Int)) = (B : Int) + (D : Int) := by have := AR.out; have := HD.out; have := HD2.out; unfold wrap64; omega
          refine norm_ (a' := ?_) ?_ ?_
          rotate_left
          · show Act.put _ (some 74) _ = _
            simp only [Act.put, goInt, List.setIfInBounds_toArray, List.set_cons_zero, List.set_cons_succ]
            rfl
          refine pure_ (i := 8) (N := some 75) (v := ?_) (a' := ?_) #[true, true, true, true, true, true, true, true, true, false] rfl rfl (by kernel_rfl) (fun _ _ _ h => h) (Or.inl ⟨by rfl, ?_⟩) ?_ ?_
          rotate_left
          · intro w'
            go_simp
            with_reducible rfl
          rotate_left
          · simp only [Act.put, List.setIfInBounds_toArray, List.set_cons_zero, List.set_cons_succ, i64_w, i32_w]
            rfl
          refine pure_ (i := 9) (N := some 10) (v := ?_) (a' := ?_) #[true, true, true, true, true, true, true, true, true, true] rfl rfl (by kernel_rfl) (fun _ _ _ h => h) (Or.inl ⟨by rfl, ?_⟩) ?_ ?_
          rotate_left
          · intro w'
            go_simp
            with_reducible rfl
          rotate_left
          · simp only [Act.put, List.setIfInBounds_toArray, List.set_cons_zero, List.set_cons_succ, i64_w, i32_w]
            rfl
          refine done_ (by kernel_rfl) ?_
          go_wp2
          go_roundg (gk - 1)
          case measure => have := HP.out; have := AR.out; omega
          case rel =>
            refine ⟨p + d, ?_, ⟨by have := HP.out; omega, by have := HP.out; have := HD.out; have := AR.out; omega, by have := HP.out; have := HD.out; have := AR.out; omega⟩, B2', HB2⟩
            rw [Nat.mul_add, AR.out.1, HD2.out]
            first | rfl | push_cast; rfl
        · have hpm : p = m := by have := HP.out; omega
          subst hpm
          have hBn : B = n := by rw [← hBe, hn]
          subst hBn
          have d1 : decide ((B : Int) < (B : Int)) = false := by simp
          have BF' := Aside0.mk (show Buf 5 wr w.heap.size (repB p l0).length (repB p l0) from by
            rw [show (repB p l0).length = B by rw [repB_length, hL, Nat.mul_comm, hBe]]
            exact BF.out)
          have hlr := Aside0.mk (show (repB p l0).length = B by rw [repB_length, hL, Nat.mul_comm, hBe])
          clear hB HP BF hBe hn hp hM hnz hq hm hL1 hL2 hm2 hn1 hn2 hL1n hle hcmax i0 i1 h1 h2 h3 h4 h5 hL
          go_wp2
          go_ret
          exact ⟨w.heap.size, by rw [hlr.out]; rfl, Nat.le_refl _, BF'.out, HB.out⟩
end
end Go.Proofs.Ytjbjofmcmjojlab.Wk
end
section
namespace Go.Proofs.Ytjbjofmcmjojlab.Wk
open Go.RowKit Go.Proofs.YtjbjofmcmjojlabW.PrintWords Go.Proofs.YtjbjofmcmjojlabW.PrintLast Go.Proofs.YtjbjofmcmjojlabW.PrintMore
attribute [local go_sem] max2_int min2_int max_two min_two max_three min_three max_four min_four
set_option linter.unusedVariables false
set_option linter.unusedSimpArgs false
theorem grid_full.calls (n : Int) (A0 : Option Addr) (c0 : Nat) (l0 : List Int) (r : List Int) (w : World) (hr0 : Kd.C (Kd.int .u8) w A0 l0.length l0) (hc0 : l0.length ≤ c0) (h : bytes_Repeat.f l0 n = some r) :
    Calls Try.prog 39 #[.int .i64 n, .slice A0 l0.length c0] w fun e w' => ∃ g, e = .returned (.slice (some ⟨g, 0, none⟩) r.length r.length) ∧ w.heap.size ≤ g ∧ Go.Proofs.YtjbjofmcmjojlabQ.Buf 5 w' g r.length r ∧ Below w.heap.size w w' := by
  have HR0 := Aside0.mk hr0
  have HC0 := Aside0.mk hc0
  have H := Aside0.mk h
  clear hr0 hc0 h
  go_enter Try.func39, Try.ntmps39
  go_wp2_with (go_at_call 57; refine (bytes_Repeat.calls A0 c0 l0 n r _ HR0.out HC0.out H.out).mono ?_; rintro e_ w5 ⟨g, rfl, hg, hb, hbe⟩; have HG := Aside0.mk hg; have HB := Aside0.mk hb; have HBE := Aside0.mk hbe; clear hg hb hbe)
  go_ret
  exact ⟨g, rfl, HG.out, HB.out, HBE.out⟩
end Go.Proofs.Ytjbjofmcmjojlab.Wk
end
section
namespace Go.Proofs.Ytjbjofmcmjojlab.Wk
open Go.RowKit Go.Proofs.YtjbjofmcmjojlabW.PrintWords Go.Proofs.YtjbjofmcmjojlabW.PrintLast Go.Proofs.YtjbjofmcmjojlabW.PrintMore
attribute [local go_sem] max2_int min2_int max_two min_two max_three min_three max_four min_four
set_option linter.unusedVariables false
set_option linter.unusedSimpArgs false
section
open Go.Proofs.YtjbjofmcmjojlabQ
structure From (base : Nat) (W W' : World) : Prop where
  size : W.heap.size ≤ W'.heap.size
  block : ∀ k, base ≤ k → k < W.heap.size → W'.heap[k]? = W.heap[k]?
theorem From.refl (base : Nat) (W : World) : From base W W := ⟨Nat.le_refl _, fun _ _ _ => rfl⟩
structure EachAt (g : Nat) (C : Array Value) (base : Nat) (A0 : Option Addr) (l0 : List Int) (cl : List (List Int × Int)) (I : List (List Int × Int) → World → Prop) : Prop where
  call : ∀ args w, Sem.run Try.prog (callFunc g args) w = .ok (.enter g args) w
  step : ∀ pre at_ n W A c, (pre ++ [(at_, n)]) <+: cl → I pre W → Kd.C (Kd.int .i64) W A at_.length at_ → at_.length ≤ c → base ≤ W.heap.size →
    Calls Try.prog g (#[.slice A at_.length c, .int .i64 n] ++ C) W fun e W' => e = .returned (.tuple #[]) ∧ I (pre ++ [(at_, n)]) W' ∧ From base W W'
  keep : ∀ pre W W', I pre W → base ≤ W.heap.size → Below base W W' → I pre W'
  size : ∀ pre W, I pre W → Kd.C (Kd.int .i64) W A0 l0.length l0
theorem R_from {base : Nat} {W W' : World} {v : Value} {xs : List Int} (h : Kd.R (Kd.int .i64) 3 W base (fun _ => True) v xs) (hf : From base W W') : Kd.R (Kd.int .i64) 3 W' base (fun _ => True) v xs :=
  Kd.R_mono (Kd.R_step (Kd.R_bound h) (fun k hk hl => hf.block k hk.2.1 hl)) (fun _ _ => trivial)
def atOf (s : List Nat) : List Int := ints s ++ [0]
theorem atOf_length (s : List Nat) : (atOf s).length = s.length + 1 := by simp [atOf, ints]
theorem atOf_rd (s : List Nat) (d : Nat) (h : d < s.length) : rd (atOf s) (d : Int) = (s.getD d 0 : Nat) := by
  simp [rd, atOf, ints, List.getD_eq_getElem?_getD, h, List.getElem?_append]
theorem atOf_set (s : List Nat) (d x : Nat) (h : d < s.length) : (atOf s).set d (x : Int) = atOf (s.set d x) := by
  simp only [atOf, ints]
  rw [List.set_append_left _ _ (by simpa using h), List.map_set]
  rfl
theorem odoGo_length (N : List Nat) : ∀ (m : Nat) (s : List Nat), (odoGo N s m).1.length = s.length
  | 0, s => rfl
  | m + 1, s => by
    simp only [odoGo]
    split
    · simp
    · rw [odoGo_length N m]; simp
theorem getD_set_le (s : List Nat) (j x b : Nat) (h : ∀ d, s.getD d 0 ≤ b) (hx : x ≤ b) (d : Nat) : (s.set j x).getD d 0 ≤ b := by
  simp only [List.getD_eq_getElem?_getD, List.getElem?_set] at h ⊢
  have := h d
  split
  · split
    · simpa using hx
    · simp
  · exact this
set_option maxHeartbeats 4000000 in
set_option maxRecDepth 10000 in
theorem rows_main (g : Nat) (C : Array Value) (N' : List Nat) (m : Nat) (I : List (List Int × Int) → World → Prop) (A0 : Option Addr) (c0 : Nat) (l0 : List Int) (w : World) (hl0 : l0 = ints N' ++ [(m : Int)])
    (hE : EachAt g C w.heap.size A0 l0 ((lexList N').map fun s => (atOf s, (m : Int))) I) (hI : I [] w) (hN : ∀ d, d < N'.length → 0 < N'.getD d 0) (hm : 1 ≤ m) (hr : N'.length ≤ 3) (hN2 : ∀ d, d < N'.length → N'.getD d 0 ≤ 1048576) (hc0 : l0.length ≤ c0) :
    Calls Try.prog 40 #[.slice A0 l0.length c0, .func (.func g) #[] C] w fun e w' => e = .returned (.tuple #[]) ∧ I ((lexList N').map fun s => (atOf s, (m : Int))) w' := by
  have hr0 := hE.size _ _ hI
  obtain ⟨q, hq⟩ : ∃ q, N'.length = q := ⟨_, rfl⟩
  have hlen : l0.length = q + 1 := by rw [hl0, ← hq]; simp [ints]
  have hz : l0.contains 0 = false := by
    rw [hl0]
    apply Bool.eq_false_iff.2
    intro h
    rcases List.mem_append.1 (List.contains_iff_mem.1 h) with h | h
    · obtain ⟨x, hx, hx0⟩ := List.mem_map.1 h
      obtain ⟨d, hd, rfl⟩ := List.getElem_of_mem hx
      have := hN d hd
      simp [List.getD_eq_getElem?_getD, hd] at this
      have : ((N'[d] : Nat) : Int) = 0 := hx0
      omega
    · simp at h
      omega
  have HC := Aside0.mk (show slices_Contains_int_int.f (l0.length + 1) l0 0 = some false by rw [Contains_int_total l0 0 (by unfold maxLen; omega), hz])
  have HE := Aside0.mk hE
  have HI := Aside0.mk hI
  have HN := Aside0.mk hN
  have HN2 := Aside0.mk hN2
  have HL0 := Aside0.mk hl0
  have hcf := hE.call
  have HR0 := Aside0.mk hr0
  have HC0 := Aside0.mk hc0
  clear hr0 hz hE hI hN hN2 hl0 hc0
  have hq3 : q ≤ 3 := by omega
  have HQ := Aside0.mk hq
  have HLEN := Aside0.mk hlen
  have b1 : (((q + 1 : Nat) : Int) == 0) = false := by simp; omega
  have hw1 : wrap64 (((q + 1 : Nat) : Int) - 1) = (q : Int) := by unfold wrap64; omega
  have hw2 : wrap64 (((q + 1 : Nat) : Int) - 2) = (q : Int) - 1 := by unfold wrap64; omega
  obtain ⟨r, hrq⟩ : ∃ r, q + 1 = r := ⟨_, rfl⟩
  rw [hrq] at b1 hw1 hw2
  have hlr : l0.length = r := by rw [hlen, hrq]
  have HCON := Aside0.mk (show ∀ W, Kd.C (Kd.int .i64) W A0 l0.length l0 → Calls Try.prog 56 #[.slice A0 r c0, .int .i64 0] W fun e W' => e = .returned (.bool false) ∧ Drawn0 W W' from fun W hW => by
    have := slices_Contains_int_int.calls (l0.length + 1) A0 c0 l0 0 false W hW HC0.out HC.out
    rw [hlr] at this
    exact this)
  have HLR := Aside0.mk hlr
  have HRQ := Aside0.mk hrq
  rw [hlr]
  clear hq hlen hr hlr hrq HC
  go_enter Try.func40, Try.ntmps40
  go_upto_region 4 with (go_at_call 56; refine (HCON.out _ HR0.out).mono ?_; rintro e_ w' ⟨rfl, ⟨n3, rfl⟩⟩)
  have HB3 := Aside0.mk (pw_below_drewN (Below.refl w.heap.size w) n3)
  generalize w.drewN n3 = w3 at HB3 ⊢
  go_upto_region 5 with ((with_reducible refine gate_dst (N := 16) rfl ?_); refine Kd.R_make (Kd.int .i64) (w0 := w) w.heap.size 3 ?hg (N := 16) ?hd 22 (.tmp 15) (.tmp 15) ?ho (r : Int) ?hx ?hy Try.underlying22 (.int .i64 0) 8 (by kernel_rfl) rfl (by decide) (by omega) (0 : Int) (ok := fun _ => True) (okp := fun _ => True) rfl (fun _ hk => hk) trivial (by omega) (by have := HRQ.out; omega) HB3.out HB3.out.size ?_; (case hg => rfl); (case hd => rfl); (case ho => rfl); (case hx => rfl); (case hy => rfl); intro v5 w5 hr5 hb5 hg5 hex; have HR5 := Aside0.mk hr5; have HB5 := Aside0.mk hb5; clear hr5 hb5 hg5 hex)
  have hrep : List.replicate ((r : Int)).toNat (0 : Int) = atOf (List.replicate q 0) := by
    rw [Int.toNat_natCast, ← HRQ.out, List.replicate_succ']
    simp [atOf, ints]
  rw [hrep] at HR5
  obtain ⟨ga, ca, e5, hga, _, _, _⟩ := Kd.R_form HR5.out (by rw [atOf_length]; omega)
  rw [atOf_length, List.length_replicate, HRQ.out] at e5
  subst e5
  have HGA := Aside0.mk hga
  clear hga
  have HI5 := Aside0.mk (HE.out.keep _ _ _ HI.out (Nat.le_refl _) HB5.out)
  have HS5 := Aside0.mk HB5.out.size
  have HOD := Aside0.mk (show Odo N' (List.replicate q 0) (lexList N') from by rw [← HQ.out]; exact odo_lex N' HN.out)
  clear hrep HB5 HB3 HI HCON HR0
  go_loopg [6] (lexList N').length (fun kq v6 W => ∃ (pre : List (List Nat)) (s : List Nat) (l : List (List Nat)), Aside0 (lexList N' = pre ++ l ∧ Odo N' s l ∧ l.length ≤ kq ∧ s.length = q ∧ ∀ d, s.getD d 0 ≤ 1048576) ∧ Aside0 (I (pre.map fun s => (atOf s, (m : Int))) W) ∧ Aside0 (Kd.R (Kd.int .i64) 3 W w.heap.size (fun _ => True) (.slice (some ⟨ga, 0, none⟩) r ca) (atOf s)) ∧ Aside0 (w.heap.size ≤ W.heap.size))
  case atStart => exact ⟨[], List.replicate q 0, lexList N', ⟨rfl, HOD.out, Nat.le_refl _, by simp, fun d => by rw [List.getD_eq_getElem?_getD, List.getElem?_replicate]; split <;> simp⟩, HI5, HR5, HS5⟩
  case round =>
    obtain ⟨pre, s, l, HP, HI, HR, HS⟩ := hrel
    clear HR5 HI5 HS5 HOD
    have hC := HE.out.size _ _ HI.out
    obtain ⟨ad, e, hx⟩ := Kd.at_int hC (q : Int) (by omega) (by have := HLR.out; have := HRQ.out; omega)
    subst e
    have hrm : rd l0 (q : Int) = (m : Int) := by
      rw [HL0.out]
      have := HQ.out
      simp [rd, ints, List.getElem?_append, this]
    rw [hrm, Int.toNat_natCast] at hx
    have p1 : (0 ≤ (q : Int)) = True := eq_true (by omega)
    have q1 : ((q : Int) < (r : Int)) = True := eq_true (by have := HRQ.out; omega)
    have HPRE := HP.out
    obtain ⟨l', hl'⟩ : ∃ l', l = s :: l' := by cases HPRE.2.1 <;> exact ⟨_, rfl⟩
    have hsl := HPRE.2.2.2.1
    have HSL := Aside0.mk hsl
    have hCall := HE.out.step (pre.map fun s => (atOf s, (m : Int))) (atOf s) (m : Int) wr (some ⟨ga, 0, none⟩) ca (by
      have : ((pre ++ [s]) <+: lexList N') := ⟨l', by rw [HPRE.1, hl']; simp⟩
      have := this.map (fun s => (atOf s, (m : Int)))
      simpa using this) HI.out (by have := (Kd.R_reads' HR.out).2.2; exact this) (by have := (Kd.R_reads' HR.out).2.1; rw [atOf_length, hsl, HRQ.out]; exact this) HS.out
    rw [atOf_length, hsl, HRQ.out] at hCall
    have HCALL := Aside0.mk hCall
    clear hC hrm hsl hCall HPRE hl'
    go_upto_region 6 with (refine HCALL.out.mono ?_; rintro e_ w6 ⟨rfl, hI6, hF6⟩; have HI6 := Aside0.mk hI6; have HF6 := Aside0.mk hF6; clear hI6 hF6)
    have HR6 := Aside0.mk (R_from HR.out HF6.out)
    have HS6 := Aside0.mk (Nat.le_trans HS.out HF6.out.size)
    generalize hpre' : (pre.map fun s => (atOf s, (m : Int))) ++ [(atOf s, (m : Int))] = pre' at HI6
    have HPRE' := Aside0.mk hpre'
    clear HCALL HR HS HI HF6 hpre' hx p1 q1 hw1
    go_upto_block 2 with (fail)
    go_cut [6] (fun v6 W => ∃ (d : Int) (s2 : List Nat) (b : Bool), v6 = .int .i64 d ∧ Aside0 (odoGo N' s q = (s2, b) ∧ (b = true → 0 ≤ d) ∧ (b = false → d = -1) ∧ ∀ d, s2.getD d 0 ≤ 1048576) ∧ Aside0 (Kd.R (Kd.int .i64) 3 W w.heap.size (fun _ => True) (.slice (some ⟨ga, 0, none⟩) r ca) (atOf s2)) ∧ Aside0 (I pre' W) ∧ Aside0 (w.heap.size ≤ W.heap.size))
    case first =>
      go_wp2
      go_loopg [6] q (fun kq v6 W => ∃ (j : Nat) (s1 : List Nat), v6 = .int .i64 ((j : Int) - 1) ∧ Aside0 (odoGo N' s q = odoGo N' s1 j ∧ j ≤ q ∧ s1.length = q ∧ j ≤ kq ∧ ∀ d, s1.getD d 0 ≤ 1048576) ∧ Aside0 (Kd.R (Kd.int .i64) 3 W w.heap.size (fun _ => True) (.slice (some ⟨ga, 0, none⟩) r ca) (atOf s1)) ∧ Aside0 (I pre' W) ∧ Aside0 (w.heap.size ≤ W.heap.size))
      case atStart => exact ⟨q, s, by rw [hw2], ⟨rfl, Nat.le_refl _, HSL.out, Nat.le_refl _, HP.out.2.2.2.2⟩, HR6, HI6, HS6⟩
      case round =>
        clear HR6 HI6 HS6
        obtain ⟨j, s1, rfl, HJ, HR, HI, HS⟩ := hrel
        by_cases hj : j = 0
        · subst hj
          have d1 : decide ((((0 : Nat) : Int) - 1) ≥ 0) = false := by decide
          go_wp2
          go_meet
          case rel => exact ⟨-1, s1, false, rfl, ⟨HJ.out.1, fun h => (by cases h), fun _ => rfl, HJ.out.2.2.2.2⟩, HR, HI, HS⟩
        · obtain ⟨j', rfl⟩ : ∃ j', j = j' + 1 := ⟨j - 1, by omega⟩
          rw [show ((j' + 1 : Nat) : Int) - 1 = (j' : Int) by omega]
          have hjl : j' < s1.length := by have := HJ.out; omega
          obtain ⟨hc1, hf1⟩ := Kd.R_celln 0 HR.out (j' : Int) (by omega) (by have := HJ.out; have := HRQ.out; omega)
          rw [show rdOf 0 (atOf s1) (j' : Int) = rd (atOf s1) (j' : Int) from rfl, atOf_rd s1 j' hjl, Int.toNat_natCast] at hc1
          rw [Int.toNat_natCast] at hf1
          have hput := Kd.R_putn HR.out (j' : Int) ((s1.getD j' 0 + 1 : Nat) : Int)
          rw [Int.toNat_natCast, atOf_set s1 j' _ hjl] at hput
          have hI2 := HE.out.keep pre' _ _ HI.out HS.out ((Below.refl w.heap.size wr).setCell (p := ⟨ga, j', none⟩) HGA.out (.int .i64 ((s1.getD j' 0 + 1 : Nat) : Int)))
          have HPUT := Aside0.mk hput
          have HI2 := Aside0.mk hI2
          have HJL := Aside0.mk hjl
          have HX := Aside0.mk (HJ.out.2.2.2.2 j')
          clear hput hI2 hj hjl
          generalize hX : s1.getD j' 0 = X at hc1 HPUT HI2 HX
          have HXE := Aside0.mk hX
          clear hX
          have hwX : wrap64 ((X : Int) + 1) = ((X + 1 : Nat) : Int) := by have := HX.out; unfold wrap64; omega
          have d1 : decide ((j' : Int) ≥ 0) = true := by simp
          have p2 : (0 ≤ (j' : Int)) = True := eq_true (by omega)
          have q2 : ((j' : Int) < (r : Int)) = True := eq_true (by have := HJ.out; have := HRQ.out; omega)
          go_upto_region 10 with (fail)
          have hcast : ((X + 1 : Nat) : Int) = (X : Int) + 1 := by omega
          rw [hcast] at HPUT HI2
          generalize wr.setCell ⟨ga, j', none⟩ (.int .i64 ((X : Int) + 1)) = W2 at HPUT HI2 ⊢
          have hs2 : w.heap.size ≤ W2.heap.size := by
            have := (Kd.R_lt HPUT.out ga rfl)
            have := HGA.out
            omega
          have HS2 := Aside0.mk hs2
          have hjl2 : j' < (s1.set j' (X + 1)).length := by rw [List.length_set]; exact HJL.out
          obtain ⟨hc2, hf2⟩ := Kd.R_celln 0 HPUT.out (j' : Int) (by omega) (of_eq_true q2)
          rw [show rdOf 0 (atOf (s1.set j' (X + 1))) (j' : Int) = rd (atOf (s1.set j' (X + 1))) (j' : Int) from rfl, atOf_rd _ j' hjl2, Int.toNat_natCast] at hc2
          rw [Int.toNat_natCast] at hf2
          have hgx : (s1.set j' (X + 1)).getD j' 0 = X + 1 := by simp [List.getD_eq_getElem?_getD, HJL.out]
          rw [hgx, hcast] at hc2
          obtain ⟨ad2, e2, hx2⟩ := Kd.at_int (HE.out.size _ _ HI2.out) (j' : Int) (by omega) (by have := HLR.out; have := of_eq_true q2; omega)
          cases e2
          have hjq : j' < q := by have := HJ.out; omega
          have hrn : rd l0 (j' : Int) = (N'.getD j' 0 : Nat) := by
            have := HQ.out
            have hl : j' < N'.length := by omega
            rw [HL0.out]
            simp [rd, ints, List.getElem?_append, hl, List.getD_eq_getElem?_getD]
          rw [hrn, Int.toNat_natCast] at hx2
          have HY := Aside0.mk (HN2.out j' (by have := HQ.out; omega))
          have hGO : odoGo N' s1 (j' + 1) = if X + 1 < N'.getD j' 0 then (s1.set j' (X + 1), true) else odoGo N' (s1.set j' 0) j' := by
            rw [odoGo, HXE.out]
          have HGO := Aside0.mk hGO
          clear hc1 hf1 hwX hs2 hjl2 hgx hrn hGO hcast
          generalize hY : N'.getD j' 0 = Y at hx2 HY HGO
          have HYE := Aside0.mk hY
          clear hY
          by_cases hxy : X + 1 < Y
          · have HGO' := HGO.out
            rw [if_pos hxy] at HGO'
            have hGF := Aside0.mk (HJ.out.1.trans HGO')
            have d2 : decide ((X : Int) + 1 < (Y : Int)) = true := decide_eq_true (by omega)
            have HXY := Aside0.mk hxy
            clear HGO' hxy
            go_quiet (fail)
            go_wp2
            go_meet
            case rel => exact ⟨j', s1.set j' (X + 1), true, rfl, ⟨hGF.out, fun _ => by omega, fun h => (by cases h), getD_set_le _ _ _ _ HJ.out.2.2.2.2 (by have := HXY.out; have := HY.out; omega)⟩, ⟨Kd.R_drewN HPUT.out _⟩, ⟨HE.out.keep pre' _ _ HI2.out HS2.out (pw_below_drewN (Below.refl _ _) _)⟩, ⟨HS2.out⟩⟩
          · have HGO' := HGO.out
            rw [if_neg hxy] at HGO'
            have hGF := Aside0.mk (HJ.out.1.trans HGO')
            have d2 : decide ((X : Int) + 1 < (Y : Int)) = false := decide_eq_false (by omega)
            have HPUT0 := Aside0.mk (show ∀ n, Kd.R (Kd.int .i64) 3 ((W2.drewN n).setCell ⟨ga, j', none⟩ (.int .i64 0)) w.heap.size (fun _ => True) (.slice (some ⟨ga, 0, none⟩) r ca) (atOf (s1.set j' 0)) from fun n => by
              have hput0 := Kd.R_putn (Kd.R_drewN HPUT.out n) (j' : Int) (((0 : Nat) : Nat) : Int)
              rw [Int.toNat_natCast, atOf_set _ j' _ (by rw [List.length_set]; exact HJL.out), List.set_set] at hput0
              exact hput0)
            have HK := Aside0.mk (show ∀ n, I pre' ((W2.drewN n).setCell ⟨ga, j', none⟩ (.int .i64 0)) from fun n => HE.out.keep pre' _ _ HI2.out HS2.out ((pw_below_drewN (Below.refl _ _) n).setCell (p := ⟨ga, j', none⟩) HGA.out _))
            clear HGO' hxy
            go_quiet (fail)
            go_wp2
            go_roundg (gk - 1)
            case measure => have := HJ.out; omega
            case rel => exact ⟨j', s1.set j' 0, rfl, ⟨hGF.out, by have := HJ.out; omega, by rw [List.length_set]; exact HJ.out.2.2.1, by have := HJ.out; omega, getD_set_le _ _ _ _ HJ.out.2.2.2.2 (by omega)⟩, ⟨HPUT0.out _⟩, ⟨HK.out _⟩, ⟨by have := HS2.out; simpa [World.setCell] using this⟩⟩
    case rest =>
      clear HR6 HI6 HS6
      obtain ⟨d, s2, b, rfl, HD, HR, HI, HS⟩ := hcut
      have hgo := odoNext_go N' q s
      rw [HD.out.1] at hgo
      cases b with
      | true =>
        have d1 : decide (d < 0) = false := decide_eq_false (by have := HD.out.2.1 rfl; omega)
        have HGO := Aside0.mk hgo
        clear hgo
        go_wp2
        go_roundg (gk - 1)
        case measure =>
          have h1 := HP.out.2.1.length
          have := HP.out.2.2.1
          omega
        case rel =>
          obtain ⟨l', hl', hod⟩ : ∃ l', l = s :: l' ∧ Odo N' s2 l' := by
            have h1 := HP.out.2.1
            have h2 := HGO.out
            simp only [if_true] at h2
            cases h1 with
            | last h => rw [HQ.out, h2] at h; cases h
            | more h h3 =>
              rw [HQ.out, h2] at h
              cases h
              exact ⟨_, rfl, h3⟩
          refine ⟨pre ++ [s], s2, l', ⟨by rw [HP.out.1, hl']; simp, hod, by have := HP.out.2.2.1; rw [hl'] at this; simp at this; omega, ?_, HD.out.2.2.2⟩, ⟨?_⟩, HR, HS⟩
          · have := odoGo_length N' q s
            rw [HD.out.1] at this
            rw [this]
            exact HSL.out
          · rw [List.map_append]
            exact HPRE'.out ▸ HI.out
      | false =>
        have hd := HD.out.2.2.1 rfl
        subst hd
        have HGO := Aside0.mk hgo
        clear hgo
        have d1 : decide ((-1 : Int) < 0) = true := by decide
        go_wp2
        first | go_end0 | ((try simp only [Exit.inBlock, Exit.then]); refine bodyPost_ret (results_none rfl _ _ _) rfl ?_)
        refine ⟨rfl, ?_⟩
        have hl' : l = [s] := by
          have h1 := HP.out.2.1
          have h2 := HGO.out
          simp only [Bool.false_eq_true, if_false] at h2
          cases h1 with
          | last h => rfl
          | more h h3 => rw [HQ.out, h2] at h; cases h
        rw [HP.out.1, hl', List.map_append]
        exact HPRE'.out ▸ HI.out
def rowsOf (l0 : List Int) : List (List Int × Int) := if l0.contains 0 = true then [] else if l0 = [] then [([], 1)] else (lexList (l0.dropLast.map Int.toNat)).map fun s => (atOf s, ((l0.getLast?.getD 0).toNat : Int))
set_option maxHeartbeats 4000000 in
theorem grid_rows (g : Nat) (C : Array Value) (I : List (List Int × Int) → World → Prop) (A0 : Option Addr) (c0 : Nat) (l0 : List Int) (w : World)
    (hE : EachAt g C w.heap.size A0 l0 (rowsOf l0) I) (hI : I [] w) (h4 : l0.length ≤ 4) (hb : ∀ x ∈ l0, 0 ≤ x ∧ x ≤ 1048576) (hc0 : l0.length ≤ c0) :
    Calls Try.prog 40 #[.slice A0 l0.length c0, .func (.func g) #[] C] w fun e w' => e = .returned (.tuple #[]) ∧ I (rowsOf l0) w' := by
  have hr0 := hE.size _ _ hI
  by_cases hz : l0.contains 0 = true
  · have hC : slices_Contains_int_int.f (l0.length + 1) l0 0 = some true := by rw [Contains_int_total l0 0 (by unfold maxLen; omega), hz]
    have HC := Aside0.mk hC
    have HE := Aside0.mk hE
    have HI := Aside0.mk hI
    have HR0 := Aside0.mk hr0
    have HC0 := Aside0.mk hc0
    have HZ := Aside0.mk hz
    clear hC hE hI hr0 hb hc0 h4 hz
    go_enter Try.func40, Try.ntmps40
    go_wp2_with (go_at_call 56; refine (slices_Contains_int_int.calls (l0.length + 1) A0 c0 l0 0 true _ HR0.out HC0.out HC.out).mono ?_; rintro e_ w' ⟨rfl, ⟨n3, rfl⟩⟩)
    first | go_end0 | ((try simp only [Exit.inBlock, Exit.then]); refine bodyPost_ret (results_none rfl _ _ _) rfl ?_)
    refine ⟨rfl, ?_⟩
    rw [show rowsOf l0 = [] by unfold rowsOf; rw [if_pos HZ.out]]
    exact HE.out.keep _ _ _ HI.out (Nat.le_refl _) (pw_below_drewN (Below.refl _ _) _)
  · have hz : l0.contains 0 = false := by simpa using hz
    by_cases hn : l0 = []
    · subst hn
      have hrow : rowsOf [] = [([], 1)] := by unfold rowsOf; rw [if_neg (by simp), if_pos rfl]
      rw [hrow] at hE ⊢
      have hC : slices_Contains_int_int.f (([] : List Int).length + 1) [] 0 = some false := by rw [Contains_int_total [] 0 (by unfold maxLen; simp)]; rfl
      have HCALL := Aside0.mk (show ∀ n, Calls Try.prog g (#[.slice none 0 0, .int .i64 1] ++ C) (w.drewN n) fun e W' => e = .returned (.tuple #[]) ∧ I [([], 1)] W' from fun n =>
        (hE.step [] [] 1 (w.drewN n) none 0 ⟨[], rfl⟩ (hE.keep _ _ _ hI (Nat.le_refl _) (pw_below_drewN (Below.refl _ _) _)) ⟨rfl, by simp, by simp⟩ (Nat.le_refl _) (Nat.le_refl _)).mono fun e W' h => ⟨h.1, h.2.1⟩)
      have HC := Aside0.mk hC
      have hcf := hE.call
      have HR0 := Aside0.mk hr0
      have HC0 := Aside0.mk hc0
      clear hC hE hI hr0 hb hc0 h4 hz hrow
      go_enter Try.func40, Try.ntmps40
      go_upto_region 1 with (go_at_call 56; refine (slices_Contains_int_int.calls (([] : List Int).length + 1) A0 c0 [] 0 false _ HR0.out HC0.out HC.out).mono ?_; rintro e_ w' ⟨rfl, ⟨n3, rfl⟩⟩)
      go_wp2_with (refine (HCALL.out _).mono ?_; rintro e_ w6 ⟨rfl, hI6⟩; have HI6 := Aside0.mk hI6; clear hI6)
      first | go_end0 | ((try simp only [Exit.inBlock, Exit.then]); refine bodyPost_ret (results_none rfl _ _ _) rfl ?_)
      exact ⟨rfl, HI6.out⟩
    · have hlast := List.dropLast_concat_getLast hn
      have hm0 := hb _ (List.getLast_mem hn)
      have hmne : l0.getLast hn ≠ 0 := fun e => by
        have := List.contains_iff_mem.2 (e ▸ List.getLast_mem hn)
        rw [hz] at this
        cases this
      obtain ⟨m, hm⟩ := Int.eq_ofNat_of_zero_le hm0.1
      have hg : l0.getLast?.getD 0 = (m : Int) := by rw [List.getLast?_eq_some_getLast hn]; exact hm
      have hrow : rowsOf l0 = (lexList (l0.dropLast.map Int.toNat)).map fun s => (atOf s, (m : Int)) := by
        unfold rowsOf
        rw [if_neg (by rw [hz]; simp), if_neg hn, hg]
        rfl
      have hd : ∀ d, d < (l0.dropLast.map Int.toNat).length → 0 < (l0.dropLast.map Int.toNat).getD d 0 ∧ (l0.dropLast.map Int.toNat).getD d 0 ≤ 1048576 := by
        intro d hd
        rw [List.length_map] at hd
        have hmem : l0.dropLast[d] ∈ l0 := List.dropLast_subset l0 (List.getElem_mem hd)
        have h1 := hb _ hmem
        have h2 : l0.dropLast[d] ≠ 0 := fun e => by
          have := List.contains_iff_mem.2 (e ▸ hmem)
          rw [hz] at this
          cases this
        rw [List.getD_eq_getElem?_getD, List.getElem?_map, List.getElem?_eq_getElem hd]
        simp only [Option.map_some, Option.getD_some]
        omega
      have hl0 : l0 = ints (l0.dropLast.map Int.toNat) ++ [(m : Int)] := by
        conv => lhs; rw [← hlast, hm]
        congr 1
        apply List.ext_getElem
        · simp [ints]
        · intro i h1 h2
          have := hb _ (List.dropLast_subset l0 (List.getElem_mem h1))
          simp only [ints, List.getElem_map]
          exact (Int.toNat_of_nonneg this.1).symm
      rw [hrow] at hE ⊢
      exact rows_main g C _ m I A0 c0 l0 w hl0 hE hI (fun d h => (hd d h).1) (by omega) (by rw [List.length_map, List.length_dropLast]; omega) (fun d h => (hd d h).2) hc0
structure Env4 (Bx Bz BD BH : Nat) (A0 : Option Addr) (c0 : Nat) (X : List Int) (z : Int) (A2 : Option Addr) (c2 : Nat) (D : List Int) (A3 : Option Addr) (c3 : Nat) (H : List Int) (A5 : Option Addr) (c5 : Nat) (L : List Int) (W : World) : Prop where
  b0 : W.cell? ⟨Bx, 0, none⟩ = some (.slice A0 X.length c0)
  b1 : W.cell? ⟨Bz, 0, none⟩ = some (.int .i64 z)
  b2 : W.cell? ⟨BD, 0, none⟩ = some (.slice A2 D.length c2)
  b3 : W.cell? ⟨BH, 0, none⟩ = some (.slice A3 H.length c3)
  r0 : Kd.C (Kd.int .u8) W A0 X.length X
  r2 : Kd.C (Kd.int .i64) W A2 D.length D
  r3 : Kd.C (Kd.int .i64) W A3 H.length H
  r5 : Kd.C (Kd.int .u8) W A5 L.length L
  l0 : X.length ≤ c0
  l2 : D.length ≤ c2
  l3 : H.length ≤ c3
  l5 : L.length ≤ c5
theorem Env4.below {Bx Bz BD BH : Nat} {A0 : Option Addr} {c0 : Nat} {X : List Int} {z : Int} {A2 : Option Addr} {c2 : Nat} {D : List Int} {A3 : Option Addr} {c3 : Nat} {H : List Int} {A5 : Option Addr} {c5 : Nat} {L : List Int} {W W' : World}
    (h : Env4 Bx Bz BD BH A0 c0 X z A2 c2 D A3 c3 H A5 c5 L W) (hb : Below W.heap.size W W') : Env4 Bx Bz BD BH A0 c0 X z A2 c2 D A3 c3 H A5 c5 L W' :=
  ⟨pw_cell_below hb h.b0, pw_cell_below hb h.b1, pw_cell_below hb h.b2, pw_cell_below hb h.b3, Kd.C_below h.r0 hb, Kd.C_below h.r2 hb, Kd.C_below h.r3 hb, Kd.C_below h.r5 hb, h.l0, h.l2, h.l3, h.l5⟩
theorem cell_same {W W' : World} {ok : Nat → Prop} (hW : ∀ k, ok k → k < W.heap.size → W'.heap[k]? = W.heap[k]?) {a : Addr} {v : Value} (h : W.cell? a = some v) (ha : ok a.block) : W'.cell? a = some v := by
  have := World.block_lt_of_cell? W a h
  unfold World.cell? at *
  rw [hW _ ha this]
  exact h
theorem Env4.foot {Bx Bz BD BH : Nat} {A0 : Option Addr} {c0 : Nat} {X : List Int} {z : Int} {A2 : Option Addr} {c2 : Nat} {D : List Int} {A3 : Option Addr} {c3 : Nat} {H : List Int} {A5 : Option Addr} {c5 : Nat} {L : List Int} {W : World}
    (h : Env4 Bx Bz BD BH A0 c0 X z A2 c2 D A3 c3 H A5 c5 L W) : Foot (Env4 Bx Bz BD BH A0 c0 X z A2 c2 D A3 c3 H A5 c5 L) W (fun k => k < W.heap.size) := fun W' hW =>
  ⟨cell_same hW h.b0 (World.block_lt_of_cell? W _ h.b0), cell_same hW h.b1 (World.block_lt_of_cell? W _ h.b1), cell_same hW h.b2 (World.block_lt_of_cell? W _ h.b2), cell_same hW h.b3 (World.block_lt_of_cell? W _ h.b3),
   Kd.C_F (Kd.heap_int .u8) h.r0 W' hW, Kd.C_F (Kd.heap_int .i64) h.r2 W' hW, Kd.C_F (Kd.heap_int .i64) h.r3 W' hW, Kd.C_F (Kd.heap_int .u8) h.r5 W' hW, h.l0, h.l2, h.l3, h.l5⟩
theorem u8_addr {W : World} {A : Option Addr} {X : List Int} (h : Kd.C (Kd.int .u8) W A X.length X) : X.length = 0 ∨ ∃ a, A = some a := by
  rcases Nat.eq_zero_or_pos X.length with h0 | h0
  · exact .inl h0
  · obtain ⟨a, e, _⟩ := (Kd.reads_of_C (d := (0 : Int)) h).2.2 h0
    exact .inr ⟨a, e⟩
theorem env4_boxes {A0 : Option Addr} {c0 : Nat} {X : List Int} {z : Int} {A2 : Option Addr} {c2 : Nat} {D : List Int} {A3 : Option Addr} {c3 : Nat} {H : List Int} {A5 : Option Addr} {c5 : Nat} {L : List Int} {w : World} (t0 t1 t2 t3 : Nat)
    (r0 : Kd.C (Kd.int .u8) w A0 X.length X) (l0 : X.length ≤ c0) (r2 : Kd.C (Kd.int .i64) w A2 D.length D) (l2 : D.length ≤ c2) (r3 : Kd.C (Kd.int .i64) w A3 H.length H) (l3 : H.length ≤ c3) (r5 : Kd.C (Kd.int .u8) w A5 L.length L) (l5 : L.length ≤ c5) :
    Env4 w.heap.size (w.heap.size + 1) (w.heap.size + 1 + 1) (w.heap.size + 1 + 1 + 1) A0 c0 X z A2 c2 D A3 c3 H A5 c5 L ((((w.alloc (.cells #[.slice A0 X.length c0] t0)).alloc (.cells #[.int .i64 z] t1)).alloc (.cells #[.slice A2 D.length c2] t2)).alloc (.cells #[.slice A3 H.length c3] t3)) ∧
    Below w.heap.size w ((((w.alloc (.cells #[.slice A0 X.length c0] t0)).alloc (.cells #[.int .i64 z] t1)).alloc (.cells #[.slice A2 D.length c2] t2)).alloc (.cells #[.slice A3 H.length c3] t3)) := by
  have hb := below_alloc (below_alloc (below_alloc (below_alloc (Below.refl w.heap.size w) (.cells #[.slice A0 X.length c0] t0)) (.cells #[.int .i64 z] t1)) (.cells #[.slice A2 D.length c2] t2)) (.cells #[.slice A3 H.length c3] t3)
  have h1 := World.alloc_heap_new w (.cells #[.slice A0 X.length c0] t0)
  have h2 := World.alloc_heap_new (w.alloc (.cells #[.slice A0 X.length c0] t0)) (.cells #[.int .i64 z] t1)
  have h3 := World.alloc_heap_new ((w.alloc (.cells #[.slice A0 X.length c0] t0)).alloc (.cells #[.int .i64 z] t1)) (.cells #[.slice A2 D.length c2] t2)
  have h4 := World.alloc_heap_new (((w.alloc (.cells #[.slice A0 X.length c0] t0)).alloc (.cells #[.int .i64 z] t1)).alloc (.cells #[.slice A2 D.length c2] t2)) (.cells #[.slice A3 H.length c3] t3)
  simp only [World.size_alloc] at h2 h3 h4
  refine ⟨⟨(blk_cell (g := w.heap.size) (blk_alloc (blk_alloc (blk_alloc h1 _) _) _) 0).trans rfl, (blk_cell (blk_alloc (blk_alloc h2 _) _) 0).trans rfl, (blk_cell (blk_alloc h3 _) 0).trans rfl, (blk_cell h4 0).trans rfl, Kd.C_below r0 hb, Kd.C_below r2 hb, Kd.C_below r3 hb, Kd.C_below r5 hb, l0, l2, l3, l5⟩, hb⟩
theorem two_rows {W : World} {b e t : Nat} {A0 A1 : Option Addr} {c0 c1 : Nat} {x y : List Int} (h : W.heap[b]? = some (.cells #[.slice A0 x.length c0, .slice A1 y.length c1] t (0, 0))) (hx : Kd.C (Kd.int .i64) W A0 x.length x) (lx : x.length ≤ c0) (hy : Kd.C (Kd.int .i64) W A1 y.length y) (ly : y.length ≤ c1) :
    Kd.C (Kd.slice e (Kd.int .i64)) W (some ⟨b, 0, none⟩) [x, y].length [x, y] := by
  refine ⟨rfl, by simp, fun _ => ⟨_, rfl, fun j p hp => ?_⟩⟩
  match j, hp with
  | 0, hp => cases hp; exact ⟨_, rfl, ⟨_, _, rfl, lx, hx⟩, fun i u hu => by
      match i, hu with
      | 0, hu => cases hu; exact (blk_cell h 0).trans rfl⟩
  | 1, hp => cases hp; exact ⟨_, rfl, ⟨_, _, rfl, ly, hy⟩, fun i u hu => by
      match i, hu with
      | 0, hu => cases hu; exact (blk_cell h 1).trans rfl⟩
def OwnB (e : Nat) (W : World) (base : Nat) (v : Value) (r : List Int) : Prop := (r = [] ∧ ∃ A c, v = .slice A 0 c) ∨ ∃ g c, v = .slice (some ⟨g, 0, none⟩) r.length c ∧ r.length ≤ c ∧ base ≤ g ∧ Go.Proofs.YtjbjofmcmjojlabQ.Buf e W g r.length r
end
end Go.Proofs.Ytjbjofmcmjojlab.Wk
end
section
namespace Go.Proofs.Ytjbjofmcmjojlab.Wk
open Go.RowKit Go.Proofs.YtjbjofmcmjojlabW.PrintWords Go.Proofs.YtjbjofmcmjojlabW.PrintLast Go.Proofs.YtjbjofmcmjojlabW.PrintMore
attribute [local go_sem] max2_int min2_int max_two min_two max_three min_three max_four min_four
set_option linter.unusedVariables false
set_option linter.unusedSimpArgs false
def grid_place.l0 : Nat → List Int → List Int → Int → Int → Int → Option (Int)
  | 0, _, _, _, _, _ => none
  | k + 1, x0, x1, x5, x8, x9 => if x9 < x8 then (if 0 ≤ x9 then (if x9 < (x0.length : Int) then (if x9 < (x1.length : Int) then (grid_place.l0 k x0 x1 (wrap64 ((wrap64 (x5 * (rd x0 x9))) + (rd x1 x9))) x8 (wrap64 (x9 + 1))) else (none)) else (none)) else (none)) else (some x5)
def grid_place.f (k : Nat) (l0 : List Int) (l1 : List Int) : Option (Int) := grid_place.l0 k l0 l1 0 (l0.length : Int) 0
set_option maxHeartbeats 8000000 in
set_option maxRecDepth 100000 in
theorem grid_place.calls (k : Nat) (A0 : Option Addr) (c0 : Nat) (l0 : List Int) (A1 : Option Addr) (c1 : Nat) (l1 : List Int) (r : Int) (w : World) (hr0 : Kd.C (Kd.int .i64) w A0 l0.length l0) (hc0 : l0.length ≤ c0) (hr1 : Kd.C (Kd.int .i64) w A1 l1.length l1) (hc1 : l1.length ≤ c1) (h : grid_place.f k l0 l1 = some r) :
    Calls Try.prog 42 #[.slice A0 l0.length c0, .slice A1 l1.length c1] w fun e w' => e = .returned (.int .i64 r) ∧ Drawn0 w w' := by
  have HR0 := Aside0.mk hr0
  have HC0 := Aside0.mk hc0
  clear hr0 hc0
  have HR1 := Aside0.mk hr1
  have HC1 := Aside0.mk hc1
  clear hr1 hc1
  have H : (grid_place.l0 k l0 l1 0 (l0.length : Int) 0) = some r := h
  clear h
  have H' := Aside0.mk H
  clear H
  go_enter Try.func42, Try.ntmps42
  go_wp2
  repeat (go_quiet (fail); try go_wp2)
  go_loopg [5, 9] k (fun kq v5 v9 w' => ∃ (x5_1 : Int) (x9_1 : Int), v5 = .int .i64 x5_1 ∧ v9 = .int .i64 x9_1 ∧ Aside0 (grid_place.l0 kq l0 l1 x5_1 (l0.length : Int) x9_1 = some r) ∧ Aside0 (kq ≤ k) ∧ Drawn0 w w')
  case atStart => exact ⟨(0), (0), (by first | rfl | (simp; done) | (simp [*]; done)), (by first | rfl | (simp; done) | (simp [*]; done)), H', ⟨Nat.le_refl _⟩, by repeat (first | exact Drawn0.refl _ | apply Drawn0.step)⟩
  case round =>
    clear H'
    try clear c1
    try clear p2
    obtain ⟨x5_1, x9_1, rfl, rfl, HA, HK1, ⟨m1, rfl⟩⟩ := hrel
    cases gk with
    | zero => exact absurd HA.out (by simp [grid_place.l0])
    | succ k1 =>
      have H := HA.out
      clear HA
      simp only [grid_place.l0] at H
      by_cases c3 : x9_1 < (l0.length : Int)
      · rw [if_pos c3] at H
        have c3b0 : decide (x9_1 < (l0.length : Int)) = true := decide_eq_true c3
        clear c3
        by_cases c4 : 0 ≤ x9_1
        · rw [if_pos c4] at H
          have c4b0 : decide (0 ≤ x9_1) = true := decide_eq_true c4
          clear c4
          by_cases c5 : x9_1 < (l0.length : Int)
          · rw [if_pos c5] at H
            have c5b0 : decide (x9_1 < (l0.length : Int)) = true := decide_eq_true c5
            clear c5
            by_cases c6 : x9_1 < (l1.length : Int)
            · rw [if_pos c6] at H
              have c6b0 : decide (x9_1 < (l1.length : Int)) = true := decide_eq_true c6
              clear c6
              have H' := Aside0.mk H
              clear H
              have p133 : 0 ≤ (x9_1 : Int) := of_decide_eq_true (by first | (with_reducible assumption) | assumption)
              have q133 : x9_1 < (l0.length : Int) := of_decide_eq_true (by first | (with_reducible assumption) | assumption)
              obtain ⟨ad133, e133, hx133_0⟩ := Kd.at_int HR0.out x9_1 p133 q133
              cases e133
              replace p133 := eq_true p133
              replace q133 := eq_true q133
              have p134 : 0 ≤ (x9_1 : Int) := of_decide_eq_true (by first | (with_reducible assumption) | assumption)
              have q134 : x9_1 < (l1.length : Int) := of_decide_eq_true (by first | (with_reducible assumption) | assumption)
              obtain ⟨ad134, e134, hx134_0⟩ := Kd.at_int HR1.out x9_1 p134 q134
              cases e134
              replace p134 := eq_true p134
              replace q134 := eq_true q134
              go_wp2
              repeat (go_quiet (fail); try go_wp2)
              go_roundg k1
              case measure => have := HK1.out; omega
              case rel => exact ⟨(wrap64 ((wrap64 (x5_1 * (rd l0 x9_1))) + (rd l1 x9_1))), (wrap64 (x9_1 + 1)), (by first | rfl | (simp; done) | (simp [*]; done)), (by first | rfl | (simp; done) | (simp [*]; done)), H', ⟨by have := HK1.out; omega⟩, by repeat (first | exact Drawn0.refl _ | apply Drawn0.step)⟩
            · rw [if_neg c6] at H
              exact absurd H (by simp)
          · rw [if_neg c5] at H
            exact absurd H (by simp)
        · rw [if_neg c4] at H
          exact absurd H (by simp)
      · rw [if_neg c3] at H
        have c3b0 : decide (x9_1 < (l0.length : Int)) = false := decide_eq_false c3
        clear c3
        obtain rfl := Option.some.inj H
        go_wp2
        repeat (go_quiet (fail); try go_wp2)
        go_ret
        exact ⟨by first | rfl | (simp; done) | (simp [*]; done), by repeat (first | exact Drawn0.refl _ | apply Drawn0.step)⟩
end Go.Proofs.Ytjbjofmcmjojlab.Wk
end
section
namespace Go.Proofs.Ytjbjofmcmjojlab.Wk
open Go.RowKit Go.Proofs.YtjbjofmcmjojlabW.PrintWords Go.Proofs.YtjbjofmcmjojlabW.PrintLast Go.Proofs.YtjbjofmcmjojlabW.PrintMore
attribute [local go_sem] max2_int min2_int max_two min_two max_three min_three max_four min_four
set_option linter.unusedVariables false
set_option linter.unusedSimpArgs false
def slices_Clone_int_int.f (l0 : List Int) : Option (List Int) := if l0.length * 8 ≤ 140737488355328 then some l0 else none
set_option maxHeartbeats 1000000 in
theorem slices_Clone_int_int.calls (A0 : Option Addr) (c0 : Nat) (l0 : List Int) (r : List Int) (w : World) (hr0 : Kd.C (Kd.int .i64) w A0 l0.length l0) (hc0 : l0.length ≤ c0) (h : slices_Clone_int_int.f l0 = some r) :
    Calls Try.prog 48 #[.slice A0 l0.length c0] w fun e w' => ∃ v0_ : Value, e = .returned (v0_) ∧ Kd.R (Kd.int .i64) 3 w' w.heap.size (fun _ => True) v0_ r ∧ Below w.heap.size w w' := by
  unfold slices_Clone_int_int.f at h
  split at h
  case isFalse => cases h
  case isTrue hl =>
  replace h := Option.some.inj h
  subst h
  have HR0 := Aside0.mk hr0
  have HL := Aside0.mk hl
  clear hl
  have hq := fun (w : World) (a : Option Addr) (l c : Nat) => Go.Lib.run_eql_slice_nil (P := Try.prog) w 22 3 a l c 0 0 Try.underlying22
  cases A0 with
  | none =>
    have h0 : l0 = [] := by
      cases l0 with
      | nil => rfl
      | cons a t => obtain ⟨ad, e1, _⟩ := Kd.at_int hr0 0 (by omega) (by simp); cases e1
    subst h0
    clear hr0
    go_enter Try.func48, Try.ntmps48
    go_wp2
    go_ret
    exact ⟨_, rfl, Kd.R_nil _ _ _ _ _, Below.refl _ _⟩
  | some ad =>
    clear hr0
    have HB := Aside0.mk (Below.refl w.heap.size w)
    go_enter Try.func48, Try.ntmps48
    go_wp2_with (first
      | ((with_reducible refine gate_dst (N := 5) rfl ?_); refine Kd.R_lit (Kd.int .i64) (w0 := w) w.heap.size 3 ?hg (N := 5) ?hd (xs := ([] : List Int)) (inner := []) (ok := fun _ => True) (okp := fun _ => True) ?hr ?hp (fun _ hk => hk) trivial (Below.refl _ _) (Nat.le_refl _) (by simp) ?_; (case hd => rfl); (case hg => rfl); (case hr => first | (go_simp; done) | (go_simp; rfl)); (case hp => exact Reps.none _ _); intro v1 w1 hr1 hb1 hg1 hex; have HR1 := Aside0.mk hr1; have HB1 := Aside0.mk hb1; clear hr1 hb1 hg1 hex)
      | ((with_reducible refine gate_dst (N := 7) rfl ?_); refine Kd.R_append_row (w0 := w) (Value.int .i64) (0 : Int) w.heap.size ?hg (.tmp 5) (.tmp 6) 22 3 (.int .i64 0) 8 ?ho Try.underlying22 (by kernel_rfl) rfl (by omega) v1 [] l0 (some ad) l0.length c0 (fun _ => True) ?hs ?hx (fun _ _ => trivial) HR1.out (Kd.C_below HR0.out HB1.out) HB1.out HB1.out.size (by simpa using HL.out) ?_; (case hg => rfl); (case ho => rfl); (case hs => rfl); (case hx => rfl); intro v2 w2 hr2 hb2 hg2 hat; have HR2 := Aside0.mk hr2; have HB2 := Aside0.mk hb2; clear hr2 hb2 hg2 hat))
    go_ret
    exact ⟨_, rfl, HR2.out, HB2.out⟩
end Go.Proofs.Ytjbjofmcmjojlab.Wk
end
section
namespace Go.Proofs.Ytjbjofmcmjojlab.Wk
open Go.RowKit Go.Proofs.YtjbjofmcmjojlabW.PrintWords Go.Proofs.YtjbjofmcmjojlabW.PrintLast Go.Proofs.YtjbjofmcmjojlabW.PrintMore
attribute [local go_sem] max2_int min2_int max_two min_two max_three min_three max_four min_four
set_option linter.unusedVariables false
set_option linter.unusedSimpArgs false
section
open Go.Proofs.YtjbjofmcmjojlabQ
structure grid_Resize1Mem (BD : Nat) (AD : Option Addr) (cD : Nat) (D : List Int) (BZ : Nat) (z : Int) (BH : Nat) (AH : Option Addr) (cH : Nat) (H : List Int) (BO : Nat) (g n cO : Nat) (BX : Nat) (aX : Addr) (cX : Nat) (X : List Int) (W : World) : Prop where
  bD : W.cell? ⟨BD, 0, none⟩ = some (.slice AD D.length cD)
  bZ : W.cell? ⟨BZ, 0, none⟩ = some (.int .i64 z)
  bH : W.cell? ⟨BH, 0, none⟩ = some (.slice AH H.length cH)
  bO : W.cell? ⟨BO, 0, none⟩ = some (.slice (some ⟨g, 0, none⟩) n cO)
  bX : W.cell? ⟨BX, 0, none⟩ = some (.slice (some aX) X.length cX)
  rD : (Kd.int .i64).C W AD D.length D
  lD : D.length ≤ cD
  rH : (Kd.int .i64).C W AH H.length H
  lH : H.length ≤ cH
  lO : n ≤ cO
  rX : (Kd.int .u8).C W (some aX) X.length X
  lX : X.length ≤ cX
theorem grid_Resize1.small (x : Nat) (h : x ≤ 1000000) : wrap64 (x : Int) = (x : Int) := by unfold wrap64; omega
theorem grid_Resize1.big (a b c n : Nat) (h : a + b + c + n ≤ 1000000) : a ≤ 1000000 ∧ b ≤ 1000000 ∧ c ≤ 1000000 ∧ a + c ≤ 1000000 := by omega
theorem grid_Resize1.arith (a b c n hi cX L cO : Nat) (h0 : n ≤ cO) (h1 : a + c ≤ L) (h2 : b + c ≤ n) (h3 : 1 ≤ c) (h4 : L ≤ cX) (h5 : a + c = hi) : (b : Int) ≤ (n : Int) ∧ (a : Int) ≤ (hi : Int) ∧ (hi : Int) ≤ (cX : Int) ∧ ((cO = b) = False) ∧ (n : Int) ≤ (cO : Int) ∧ ((cX = a) = False) := ⟨by omega, by omega, by omega, eq_false (by omega), by omega, eq_false (by omega)⟩
set_option maxHeartbeats 4000000 in
set_option maxRecDepth 10000 in
theorem grid_Resize1.calls (k0 k1 : Nat) (BD : Nat) (AD : Option Addr) (cD : Nat) (D : List Int) (BZ : Nat) (z : Int) (BH : Nat) (AH : Option Addr) (cH : Nat) (H : List Int) (BO : Nat) (g n cO : Nat) (BX : Nat) (aX : Addr) (cX : Nat) (X : List Int) (A0 : Option Addr) (c0 : Nat) (at_ : List Int) (m : Int) (p0 p1 : Int) (a b c base : Nat) (O : List Int) (ok : Nat → Prop) (W : World)
    (hM : Foot (grid_Resize1Mem BD AD cD D BZ z BH AH cH H BO g n cO BX aX cX X) W ok) (hok : ∀ k, ok k → k ≠ g) (hg : g < base) (hbase : base ≤ W.heap.size) (hB : Buf 5 W g n O) (hO : O.length = n)
    (hr0 : (Kd.int .i64).C W A0 at_.length at_) (hc0 : at_.length ≤ c0) (h0 : grid_place.f k0 D at_ = some p0) (h1 : grid_place.f k1 H at_ = some p1)
    (ha : p0 * z = (a : Int)) (hb : p1 * z = (b : Int)) (hc : m * z = (c : Int)) (hc1 : 1 ≤ c) (hac : a + c ≤ X.length) (hbc : b + c ≤ n) (hbig : a + b + c + n ≤ 1000000) :
    Calls Try.prog 49 (#[.slice A0 at_.length c0, .int .i64 m] ++ #[.pointer (some ⟨BD, 0, none⟩), .pointer (some ⟨BZ, 0, none⟩), .pointer (some ⟨BH, 0, none⟩), .pointer (some ⟨BO, 0, none⟩), .pointer (some ⟨BX, 0, none⟩)]) W fun e W' => e = .returned (.tuple #[]) ∧ Buf 5 W' g n (laid O b ((X.drop a).take c)) ∧ Foot (grid_Resize1Mem BD AD cD D BZ z BH AH cH H BO g n cO BX aX cX X) W' ok ∧ W.grownBy W' (some g) := by
  have HM := Aside0.mk hM
  have HB := Aside0.mk hB
  have HR := Aside0.mk hr0
  have HC := Aside0.mk hc0
  have H0 := Aside0.mk h0
  have H1 := Aside0.mk h1
  have AR := Aside0.mk (show a + c ≤ X.length ∧ b + c ≤ n ∧ 1 ≤ c ∧ a + b + c + n ≤ 1000000 ∧ g < base ∧ base ≤ W.heap.size from ⟨hac, hbc, hc1, hbig, hg, hbase⟩)
  have HOK := Aside0.mk hok
  have HO := Aside0.mk hO
  have BIG := grid_Resize1.big a b c n hbig
  have wz : ∀ x : Nat, x ≤ 1000000 → wrap64 (x : Int) = (x : Int) := grid_Resize1.small
  have wa : wrap64 (p0 * z) = (a : Int) := by rw [ha]; exact wz a BIG.1
  have wb : wrap64 (p1 * z) = (b : Int) := by rw [hb]; exact wz b BIG.2.1
  have wc : wrap64 (m * z) = (c : Int) := by rw [hc]; exact wz c BIG.2.2.1
  obtain ⟨hi, hhi⟩ : ∃ hi, a + c = hi := ⟨_, rfl⟩
  have wd : wrap64 ((a : Int) + (c : Int)) = (hi : Int) := by rw [← hhi]; exact wz (a + c) BIG.2.2.2
  have hmem := hM.now
  have hcX := hmem.lX
  have i1 : (0 : Int) ≤ (b : Int) := Int.natCast_nonneg _
  have i3 : (0 : Int) ≤ (a : Int) := Int.natCast_nonneg _
  obtain ⟨i2, i4, i5, e1, i6, e2⟩ := grid_Resize1.arith a b c n hi cX _ cO hmem.lO hac hbc hc1 hcX hhi
  have HHI := Aside0.mk hhi
  have HCX := Aside0.mk hcX
  have HMEM := Aside0.mk hmem
  clear hM hok hg hbase hB hO hr0 hc0 h0 h1 ha hb hc hc1 hac hbc hbig hhi hcX hmem
  show Calls Try.prog 49 #[.slice A0 at_.length c0, .int .i64 m, .pointer (some ⟨BD, 0, none⟩), .pointer (some ⟨BZ, 0, none⟩), .pointer (some ⟨BH, 0, none⟩), .pointer (some ⟨BO, 0, none⟩), .pointer (some ⟨BX, 0, none⟩)] W _
  go_enter Try.func49, Try.ntmps49
  go_upto_region 0 with (fail)
  refine start_ (n := 12) (S := fun W' => Below W.heap.size W W' ∧ grid_Resize1Mem BD AD cD D BZ z BH AH cH H BO g n cO BX aX cX X W') (ds := []) #[false, false, false, false, false, false, false, false, false, false, false, false] (by kernel_rfl) rfl rfl ⟨below_drew (Below.refl _ _), HM.out W.drew (fun _ _ _ => rfl)⟩ (fun hHeld => ?_)
  refine pure_ (i := 1) (N := some 12) (v := ?_) (a' := ?_) #[false, true, false, false, false, false, false, false, false, false, false, false] rfl rfl (by kernel_rfl) (fun _ _ _ h => h) (Or.inl ⟨by rfl, ?_⟩) ?_ ?_
  rotate_left
  · intro w'
    go_simp
    with_reducible rfl
  rotate_left
  · simp only [Act.put, List.setIfInBounds_toArray, List.set_cons_zero, List.set_cons_succ, i64_w, i32_w]
    rfl
  refine pure_ (i := 6) (N := some 17) (v := ?_) (a' := ?_) #[false, true, false, false, false, false, true, false, false, false, false, false] rfl rfl (by kernel_rfl) (fun _ _ _ h => h) (Or.inl ⟨by rfl, ?_⟩) ?_ ?_
  rotate_left
  · intro w'
    go_simp
    with_reducible rfl
  rotate_left
  · simp only [Act.put, List.setIfInBounds_toArray, List.set_cons_zero, List.set_cons_succ, i64_w, i32_w]
    rfl
  refine take_ (i := 0) (N := some 11) (v := ?_) (a' := ?_) #[true, true, false, false, false, false, true, false, false, false, false, false] rfl rfl (by kernel_rfl) (fun _ _ _ h => h) (Or.inl ⟨by rfl, ?_⟩) hHeld ?_ ?_
  rotate_left
  · rintro w' ⟨hB_, ⟨bD_, bZ_, bH_, bO_, bX_, rD_, lD_, rH_, lH_, lO_, rX_, lX_⟩⟩
    go_simp
    with_reducible rfl
  rotate_left
  · simp only [Act.put, List.setIfInBounds_toArray, List.set_cons_zero, List.set_cons_succ, i64_w, i32_w]
    rfl
  refine take_ (i := 3) (N := some 14) (v := ?_) (a' := ?_) #[true, true, false, true, false, false, true, false, false, false, false, false] rfl rfl (by kernel_rfl) (fun _ _ _ h => h) (Or.inl ⟨by rfl, ?_⟩) hHeld ?_ ?_
  rotate_left
  · rintro w' ⟨hB_, ⟨bD_, bZ_, bH_, bO_, bX_, rD_, lD_, rH_, lH_, lO_, rX_, lX_⟩⟩
    go_simp
    with_reducible rfl
  rotate_left
  · simp only [Act.put, List.setIfInBounds_toArray, List.set_cons_zero, List.set_cons_succ, i64_w, i32_w]
    rfl
  refine take_ (i := 5) (N := some 16) (v := ?_) (a' := ?_) #[true, true, false, true, false, true, true, false, false, false, false, false] rfl rfl (by kernel_rfl) (fun _ _ _ h => h) (Or.inl ⟨by rfl, ?_⟩) hHeld ?_ ?_
  rotate_left
  · rintro w' ⟨hB_, ⟨bD_, bZ_, bH_, bO_, bX_, rD_, lD_, rH_, lH_, lO_, rX_, lX_⟩⟩
    go_simp
    with_reducible rfl
  rotate_left
  · simp only [Act.put, List.setIfInBounds_toArray, List.set_cons_zero, List.set_cons_succ, i64_w, i32_w]
    rfl
  refine take_ (i := 8) (N := some 19) (v := ?_) (a' := ?_) #[true, true, false, true, false, true, true, false, true, false, false, false] rfl rfl (by kernel_rfl) (fun _ _ _ h => h) (Or.inl ⟨by rfl, ?_⟩) hHeld ?_ ?_
  rotate_left
  · rintro w' ⟨hB_, ⟨bD_, bZ_, bH_, bO_, bX_, rD_, lD_, rH_, lH_, lO_, rX_, lX_⟩⟩
    go_simp
    with_reducible rfl
  rotate_left
  · simp only [Act.put, List.setIfInBounds_toArray, List.set_cons_zero, List.set_cons_succ, i64_w, i32_w]
    rfl
  refine one_ (i := 2) (N := some 13) #[true, true, true, true, false, true, true, false, true, false, false, false] rfl rfl (by kernel_rfl) (by decide) (fun K hK => ?_)
  skip
  refine goes_ Try.func42 (by kernel_rfl) rfl #[.slice AD D.length cD, .slice A0 at_.length c0] (by rfl) rfl rfl (by (simp only [List.map_toArray, List.map_cons, List.map_nil]); rfl) ?_
  refine (grid_place.calls k0 AD cD D A0 c0 at_ p0 _ (hHeld.2.rD) (hHeld.2.lD) (Kd.C_below HR.out hHeld.1) (HC.out) H0.out).mono ?_
  rintro e_ W0 ⟨rfl, ⟨q0, rfl⟩⟩
  have hBn := pw_below_drewN hHeld.1 q0
  refine ⟨_, rfl, ?_⟩
  refine hK.out _ _ ⟨hBn, HM.out _ (fun k _ hlt => hBn.block k hlt)⟩ (fun hHeld => ?_)
  clear hK K hBn
  refine norm_ (a' := ?_) ?_ ?_
  rotate_left
  · show Act.put _ (some 13) _ = _
    simp only [Act.put, List.setIfInBounds_toArray, List.set_cons_zero, List.set_cons_succ, i64_w, i32_w]
    rfl
  refine pure_ (i := 4) (N := some 15) (v := ?_) (a' := ?_) #[true, true, true, true, true, true, true, false, true, false, false, false] rfl rfl (by kernel_rfl) (fun _ _ _ h => h) (Or.inl ⟨by rfl, ?_⟩) ?_ ?_
  rotate_left
  · intro w'
    go_simp
    with_reducible rfl
  rotate_left
  · simp only [Act.put, List.setIfInBounds_toArray, List.set_cons_zero, List.set_cons_succ, i64_w, i32_w]
    rfl
  refine one_ (i := 7) (N := some 18) #[true, true, true, true, true, true, true, true, true, false, false, false] rfl rfl (by kernel_rfl) (by decide) (fun K hK => ?_)
  skip
  refine goes_ Try.func42 (by kernel_rfl) rfl #[.slice AH H.length cH, .slice A0 at_.length c0] (by rfl) rfl rfl (by (simp only [List.map_toArray, List.map_cons, List.map_nil]); rfl) ?_
  refine (grid_place.calls k1 AH cH H A0 c0 at_ p1 _ (hHeld.2.rH) (hHeld.2.lH) (Kd.C_below HR.out hHeld.1) (HC.out) H1.out).mono ?_
  rintro e_ W1 ⟨rfl, ⟨q1, rfl⟩⟩
  have hBn := pw_below_drewN hHeld.1 q1
  refine ⟨_, rfl, ?_⟩
  refine hK.out _ _ ⟨hBn, HM.out _ (fun k _ hlt => hBn.block k hlt)⟩ (fun hHeld => ?_)
  clear hK K hBn
  refine norm_ (a' := ?_) ?_ ?_
  rotate_left
  · show Act.put _ (some 18) _ = _
    simp only [Act.put, List.setIfInBounds_toArray, List.set_cons_zero, List.set_cons_succ, i64_w, i32_w]
    rfl
  refine pure_ (i := 9) (N := some 20) (v := ?_) (a' := ?_) #[true, true, true, true, true, true, true, true, true, true, false, false] rfl rfl (by kernel_rfl) (fun _ _ _ h => h) (Or.inl ⟨by rfl, ?_⟩) ?_ ?_
  rotate_left
  · intro w'
    go_simp
    with_reducible rfl
  rotate_left
  · simp only [Act.put, List.setIfInBounds_toArray, List.set_cons_zero, List.set_cons_succ, i64_w, i32_w]
    rfl
  refine pure_ (i := 10) (N := some 9) (v := ?_) (a' := ?_) #[true, true, true, true, true, true, true, true, true, true, true, false] rfl rfl (by kernel_rfl) (fun _ _ _ h => h) (Or.inl ⟨by rfl, ?_⟩) ?_ ?_
  rotate_left
  · intro w'
    go_simp
    with_reducible rfl
  rotate_left
  · simp only [Act.put, List.setIfInBounds_toArray, List.set_cons_zero, List.set_cons_succ, i64_w, i32_w]
    rfl
  refine pure_ (i := 11) (N := some 10) (v := ?_) (a' := ?_) #[true, true, true, true, true, true, true, true, true, true, true, true] rfl rfl (by kernel_rfl) (fun _ _ _ h => h) (Or.inl ⟨by rfl, ?_⟩) ?_ ?_
  rotate_left
  · intro w'
    go_simp
    with_reducible rfl
  rotate_left
  · simp only [Act.put, List.setIfInBounds_toArray, List.set_cons_zero, List.set_cons_succ, i64_w, i32_w]
    rfl
  refine done_ (by kernel_rfl) ?_
  go_wp2
  have HB0 := Aside0.mk hHeld.1
  clear hHeld
  generalize hWr : (((W.drew).drewN q0).drewN q1) = Wr at HB0 ⊢
  have BF : Buf 5 Wr.drew g n O := HB.out.step (HB0.out.block g (by have := AR.out; omega))
  have MEM : grid_Resize1Mem BD AD cD D BZ z BH AH cH H BO g n cO BX aX cX X Wr := HM.out _ (fun k _ hlt => HB0.out.block k hlt)
  have HMW := Aside0.mk MEM
  have hlen : ((X.drop a).take c).length = c := by have := AR.out; simp; omega
  obtain ⟨W2, hr2, B2, hg2⟩ := BF.copy (P := Try.prog) (t := 31) (t' := 31) (ty := 3) (o := b) (dLen := n - b) (dCap := cO - b) (m := hi - a) (c := cX - a) (ad := aX.add a) (ys := (X.drop a).take c) Try.underlying31 (by kernel_rfl) (by have := AR.out; have := HO.out; omega) (by rw [hlen]; have := AR.out; have := HHI.out; omega) (by rw [hlen]; have := AR.out; omega)
    (fun j hj => by
      rw [hlen] at hj
      obtain ⟨_, _, hx⟩ := Kd.reads_of_C (d := (0 : Int)) HMW.out.rX
      obtain ⟨ad, e, hx⟩ := hx (by have := AR.out; omega)
      cases e
      have h2 := hx (a + j) (by have := AR.out; omega)
      rw [show (aX.add a).add j = aX.add (a + j) from Addr.add_add _ _ _]
      refine Eq.trans h2 ?_
      simp [List.getD_eq_getElem?_getD, List.getElem?_take, hj])
  rw [hlen] at hr2
  have B2' := Aside0.mk B2
  have G2 := Aside0.mk hg2
  clear BF MEM hlen B2 hg2
  have FS := Aside0.mk (show Foot (grid_Resize1Mem BD AD cD D BZ z BH AH cH H BO g n cO BX aX cX X) W2 ok from HM.out.step (fun k hk hlt => (G2.out.block k (Nat.lt_of_lt_of_le hlt HB0.out.size) (by have := HOK.out k hk; simpa using this)).trans (HB0.out.block k hlt)))
  refine start_ (n := 12) (S := fun W' => grid_Resize1Mem BD AD cD D BZ z BH AH cH H BO g n cO BX aX cX X W') (ds := []) #[false, false, false, false, false, false, false, false, false, false, false, false] (by kernel_rfl) rfl rfl (HM.out _ (fun k _ hlt => HB0.out.block k hlt)) (fun hHeld => ?_)
  refine take_ (i := 0) (N := some 21) (v := ?_) (a' := ?_) #[true, false, false, false, false, false, false, false, false, false, false, false] rfl rfl (by kernel_rfl) (fun _ _ _ h => h) (Or.inl ⟨by rfl, ?_⟩) hHeld ?_ ?_
  rotate_left
  · rintro w' ⟨bD_, bZ_, bH_, bO_, bX_, rD_, lD_, rH_, lH_, lO_, rX_, lX_⟩
    go_simp
    with_reducible rfl
  rotate_left
  · simp only [Act.put, List.setIfInBounds_toArray, List.set_cons_zero, List.set_cons_succ, i64_w, i32_w]
    rfl
  refine pure_ (i := 1) (N := some 22) (v := ?_) (a' := ?_) #[true, true, false, false, false, false, false, false, false, false, false, false] rfl rfl (by kernel_rfl) (fun _ _ _ h => h) (Or.inl ⟨by rfl, ?_⟩) ?_ ?_
  rotate_left
  · intro w'
    go_simp
    with_reducible rfl
  rotate_left
  · simp only [Act.put, List.setIfInBounds_toArray, List.set_cons_zero, List.set_cons_succ, i64_w, i32_w]
    rfl
  refine take_ (i := 3) (N := some 24) (v := ?_) (a' := ?_) #[true, true, false, true, false, false, false, false, false, false, false, false] rfl rfl (by kernel_rfl) (fun _ _ _ h => h) (Or.inl ⟨by rfl, ?_⟩) hHeld ?_ ?_
  rotate_left
  · rintro w' ⟨bD_, bZ_, bH_, bO_, bX_, rD_, lD_, rH_, lH_, lO_, rX_, lX_⟩
    go_simp
    with_reducible rfl
  rotate_left
  · simp only [Act.put, List.setIfInBounds_toArray, List.set_cons_zero, List.set_cons_succ, i64_w, i32_w]
    rfl
  refine pure_ (i := 4) (N := some 25) (v := ?_) (a' := ?_) #[true, true, false, true, true, false, false, false, false, false, false, false] rfl rfl (by kernel_rfl) (fun _ _ _ h => h) (Or.inl ⟨by rfl, ?_⟩) ?_ ?_
  rotate_left
  · intro w'
    go_simp
    with_reducible rfl
  rotate_left
  · simp only [Act.put, List.setIfInBounds_toArray, List.set_cons_zero, List.set_cons_succ, i64_w, i32_w]
    rfl
  refine pure_ (i := 5) (N := some 26) (v := ?_) (a' := ?_) #[true, true, false, true, true, true, false, false, false, false, false, false] rfl rfl (by kernel_rfl) (fun _ _ _ h => h) (Or.inl ⟨by rfl, ?_⟩) ?_ ?_
  rotate_left
  · intro w'
    go_simp
    with_reducible rfl
  rotate_left
  · simp only [Act.put, List.setIfInBounds_toArray, List.set_cons_zero, List.set_cons_succ, i64_w, i32_w]
    rfl
  refine pure_ (i := 6) (N := some 27) (v := ?_) (a' := ?_) #[true, true, false, true, true, true, true, false, false, false, false, false] rfl rfl (by kernel_rfl) (fun _ _ _ h => h) (Or.inl ⟨by rfl, ?_⟩) ?_ ?_
  rotate_left
  · intro w'
    go_simp
    with_reducible rfl
  rotate_left
  · simp only [Act.put, List.setIfInBounds_toArray, List.set_cons_zero, List.set_cons_succ, i64_w, i32_w]
    rfl
  refine take_ (i := 7) (N := some 28) (v := ?_) (a' := ?_) #[true, true, false, true, true, true, true, true, false, false, false, false] rfl rfl (by kernel_rfl) (fun _ _ _ h => h) (Or.inl ⟨by rfl, ?_⟩) hHeld ?_ ?_
  rotate_left
  · rintro w' ⟨bD_, bZ_, bH_, bO_, bX_, rD_, lD_, rH_, lH_, lO_, rX_, lX_⟩
    go_simp
    with_reducible rfl
  rotate_left
  · simp only [Act.put, List.setIfInBounds_toArray, List.set_cons_zero, List.set_cons_succ, i64_w, i32_w]
    rfl
  refine pure_ (i := 8) (N := some 29) (v := ?_) (a' := ?_) #[true, true, false, true, true, true, true, true, true, false, false, false] rfl rfl (by kernel_rfl) (fun _ _ _ h => h) (Or.inl ⟨by rfl, ?_⟩) ?_ ?_
  rotate_left
  · intro w'
    go_simp
    with_reducible rfl
  rotate_left
  · simp only [Act.put, List.setIfInBounds_toArray, List.set_cons_zero, List.set_cons_succ, i64_w, i32_w]
    rfl
  refine pure_ (i := 9) (N := some 30) (v := ?_) (a' := ?_) #[true, true, false, true, true, true, true, true, true, true, false, false] rfl rfl (by kernel_rfl) (fun _ _ _ h => h) (Or.inl ⟨by rfl, ?_⟩) ?_ ?_
  rotate_left
  · intro w'
    go_simp
    with_reducible rfl
  rotate_left
  · simp only [Act.put, List.setIfInBounds_toArray, List.set_cons_zero, List.set_cons_succ, i64_w, i32_w]
    rfl
  refine pure_ (i := 2) (N := some 23) (v := ?_) (a' := ?_) #[true, true, true, true, true, true, true, true, true, true, false, false] rfl rfl (by kernel_rfl) (fun _ _ _ h => h) (Or.inl ⟨by rfl, ?_⟩) ?_ ?_
  rotate_left
  · intro w'
    go_simp
    with_reducible rfl
  rotate_left
  · simp only [Act.put, List.setIfInBounds_toArray, List.set_cons_zero, List.set_cons_succ, i64_w, i32_w]
    rfl
  refine pure_ (i := 10) (N := some 31) (v := ?_) (a' := ?_) #[true, true, true, true, true, true, true, true, true, true, true, false] rfl rfl (by kernel_rfl) (fun _ _ _ h => h) (Or.inl ⟨by rfl, ?_⟩) ?_ ?_
  rotate_left
  · intro w'
    go_simp
    with_reducible rfl
  rotate_left
  · simp only [Act.put, List.setIfInBounds_toArray, List.set_cons_zero, List.set_cons_succ, i64_w, i32_w]
    rfl
  refine one_ (i := 11) (N := some 32) #[true, true, true, true, true, true, true, true, true, true, true, true] rfl rfl (by kernel_rfl) (by decide) (fun K hK => ?_)
  refine step_copy rfl (.tmp 23) (.tmp 31) 31 31 rfl (.slice (some ⟨g, b, none⟩) (n - b) (cO - b)) (.slice (some (aX.add a)) (hi - a) (cX - a)) rfl rfl hr2 ?_
  refine hK.out _ _ FS.out.now (fun _ => ?_)
  clear hK K hr2
  refine done_ (by kernel_rfl) ?_
  first | go_end0 | (refine bodyPost_ret (results_none rfl _ _ _) rfl ?_)
  exact ⟨rfl, B2'.out, FS.out, ⟨G2.out.os.trans HB0.out.os, G2.out.tape.trans HB0.out.tape, G2.out.output.trans HB0.out.output, Nat.le_trans HB0.out.size G2.out.size, fun k h1 h2 => (G2.out.block k (Nat.lt_of_lt_of_le h1 HB0.out.size) h2).trans (HB0.out.block k h1)⟩⟩
end
end Go.Proofs.Ytjbjofmcmjojlab.Wk
end
section
namespace Go.Proofs.Ytjbjofmcmjojlab.Wk
open Go.RowKit Go.Proofs.YtjbjofmcmjojlabW.PrintWords Go.Proofs.YtjbjofmcmjojlabW.PrintLast Go.Proofs.YtjbjofmcmjojlabW.PrintMore
attribute [local go_sem] max2_int min2_int max_two min_two max_three min_three max_four min_four
set_option linter.unusedVariables false
set_option linter.unusedSimpArgs false
section
open Go.Proofs.YtjbjofmcmjojlabQ
def grid_resStep (k : Nat) (D : List Int) (z : Int) (H X : List Int) (n : Nat) (O : List Int) (q : List Int × Int) : Option (List Int) :=
  (grid_place.f k D q.1).bind fun p1 => (grid_place.f k H q.1).bind fun p2 =>
  if 0 ≤ p1 * z ∧ 0 ≤ p2 * z ∧ 1 ≤ q.2 * z ∧ p1 * z + q.2 * z ≤ (X.length : Int) ∧ p2 * z + q.2 * z ≤ (n : Int) ∧ p1 * z + p2 * z + q.2 * z + (n : Int) ≤ 1000000 then some (laid O (p2 * z).toNat ((X.drop (p1 * z).toNat).take (q.2 * z).toNat)) else none
def grid_resFold (k : Nat) (D : List Int) (z : Int) (H X : List Int) (n : Nat) (O : List Int) (l : List (List Int × Int)) : Option (List Int) := l.foldlM (grid_resStep k D z H X n) O
def grid_both (D H : List Int) : List Int := List.zipWith min D H
def grid_Resize.f (k : Nat) (X : List Int) (z : Int) (D H L : List Int) : Option (List Int × Int) :=
  (space_Elements.f D).bind fun n => if n.2 = 0 then ((space_Elements.f H).bind fun m => if m.2 = 0 then (if D.length = H.length then ((grid_sized.f k z [D, H]).bind fun e2 => if e2 = 0 then
    (if (X.length : Int) = wrap64 (n.1 * z) ∧ (L.length : Int) = z then
      ((bytes_Repeat.f L m.1).bind fun O => (slices_Clone_int_int.f D).bind fun _ => if (grid_both D H).length ≤ 4 ∧ ∀ x ∈ grid_both D H, 0 ≤ x ∧ x ≤ 1048576 then (grid_resFold k D z H X O.length O (rowsOf (grid_both D H))).bind fun r => some (r, 0) else none)
    else some ([], 2)) else some ([], e2)) else some ([], 2)) else some ([], m.2)) else some ([], n.2)
theorem resFold_length {k : Nat} {D : List Int} {z : Int} {H X : List Int} {n : Nat} : ∀ (l : List (List Int × Int)) (O r : List Int), O.length = n → grid_resFold k D z H X n O l = some r → r.length = n
  | [], O, r, h, h1 => by cases h1; exact h
  | q :: l, O, r, h, h1 => by
    unfold grid_resFold at h1
    rw [List.foldlM_cons] at h1
    obtain ⟨O', h2, h3⟩ := Option.bind_eq_some_iff.mp h1
    refine resFold_length l O' r ?_ h3
    unfold grid_resStep at h2
    obtain ⟨p1, _, h2⟩ := Option.bind_eq_some_iff.mp h2
    obtain ⟨p2, _, h2⟩ := Option.bind_eq_some_iff.mp h2
    split at h2
    · cases h2
      rw [laid_length _ _ _ (by simp only [List.length_take, List.length_drop]; omega)]
      exact h
    · cases h2
set_option maxHeartbeats 4000000 in
set_option maxRecDepth 10000 in
theorem res_each (k : Nat) (BD BZ BH BO BX : Nat) (AD : Option Addr) (cD : Nat) (D : List Int) (z : Int) (AH : Option Addr) (cH : Nat) (H : List Int) (g n cO : Nat) (hcO : n ≤ cO) (AX : Option Addr) (cX : Nat) (X : List Int) (AP : Option Addr) (P O r : List Int) (W0 : World)
    (hM : ∀ aX, AX = some aX → Foot (grid_Resize1Mem BD AD cD D BZ z BH AH cH H BO g n cO BX aX cX X) W0 (fun k => k < W0.heap.size ∧ k ≠ g)) (hX : X.length = 0 ∨ ∃ aX, AX = some aX)
    (hP : Foot (fun W => Kd.C (Kd.int .i64) W AP P.length P) W0 (fun k => k < W0.heap.size ∧ k ≠ g)) (hg : g < W0.heap.size) (hO : O.length = n) (hr : grid_resFold k D z H X n O (rowsOf P) = some r) :
    EachAt 49 #[.pointer (some ⟨BD, 0, none⟩), .pointer (some ⟨BZ, 0, none⟩), .pointer (some ⟨BH, 0, none⟩), .pointer (some ⟨BO, 0, none⟩), .pointer (some ⟨BX, 0, none⟩)] W0.heap.size AP P (rowsOf P)
      (fun pre W => ∃ O', grid_resFold k D z H X n O pre = some O' ∧ Buf 5 W g n O' ∧ W0.grownBy W (some g)) where
  call := fun args w => enters_ Try.func49 (by kernel_rfl) rfl args w
  keep := by
    rintro pre W W' ⟨O', h1, h2, h3⟩ hs hb
    exact ⟨O', h1, h2.step (hb.block g hg), ⟨hb.os.trans h3.os, hb.tape.trans h3.tape, hb.output.trans h3.output, Nat.le_trans h3.size hb.size, fun k a b => (hb.block k a).trans (h3.block k a b)⟩⟩
  size := by
    rintro pre W ⟨O', h1, h2, h3⟩
    exact hP W (fun k hk hl => h3.block k hl (by intro e; injection e with e; exact hk.2 e))
  step := by
    rintro pre at_ m W A c hpre ⟨O', h1, h2, h3⟩ hC hc hs
    obtain ⟨post, hpost⟩ := hpre
    have hO' := resFold_length _ _ _ hO h1
    unfold grid_resFold at hr
    rw [← hpost, List.foldlM_append, List.foldlM_append] at hr
    obtain ⟨O2, h4, _⟩ := Option.bind_eq_some_iff.mp hr
    have h5 := h4
    obtain ⟨O3, h6, h7⟩ := Option.bind_eq_some_iff.mp h4
    have h1' : pre.foldlM (grid_resStep k D z H X n) O = some O' := h1
    rw [h1'] at h6
    cases h6
    rw [List.foldlM_cons] at h7
    obtain ⟨O3, h8, h9⟩ := Option.bind_eq_some_iff.mp h7
    cases h9
    have h8' := h8
    unfold grid_resStep at h8
    obtain ⟨p1, m2, h8⟩ := Option.bind_eq_some_iff.mp h8
    obtain ⟨p2, m3, h8⟩ := Option.bind_eq_some_iff.mp h8
    split at h8
    case isFalse => cases h8
    case isTrue hq =>
    cases h8
    obtain ⟨q1, q2, q3, q4, q5, q6⟩ := hq
    obtain ⟨a, ha⟩ := Int.eq_ofNat_of_zero_le q1
    obtain ⟨b, hb⟩ := Int.eq_ofNat_of_zero_le q2
    obtain ⟨d, hd⟩ := Int.eq_ofNat_of_zero_le (a := m * z) (by simp only at q3; omega)
    simp only at q3 q4 q5 q6
    rw [ha, hd] at q4
    rw [hb, hd] at q5
    rw [ha, hb, hd] at q6
    rw [hd] at q3
    obtain ⟨aX, rfl⟩ : ∃ aX, AX = some aX := by
      rcases hX with hX | hX
      · omega
      · exact hX
    have hM' := (hM aX rfl).step (W1 := W) (fun k hk hl => h3.block k hl (by intro e; injection e with e; exact hk.2 e))
    refine (grid_Resize1.calls k k BD AD cD D BZ z BH AH cH H BO g n cO BX aX cX X A c at_ m p1 p2 a b d W0.heap.size O' (fun k => k < W0.heap.size ∧ k ≠ g) W hM' (fun k hk => hk.2) hg hs h2 hO' hC hc m2 m3 ha hb hd (by omega) (by omega) (by omega) (by omega)).mono ?_
    rintro e W' ⟨rfl, b1, b2, b3⟩
    refine ⟨rfl, ⟨_, (by unfold grid_resFold; rw [List.foldlM_append]; exact h5), ?_, ⟨b3.os.trans h3.os, b3.tape.trans h3.tape, b3.output.trans h3.output, Nat.le_trans h3.size b3.size, fun k x y => (b3.block k (Nat.lt_of_lt_of_le x h3.size) y).trans (h3.block k x y)⟩⟩, ⟨b3.size, fun k x y => b3.block k y (by intro e; injection e with e; omega)⟩⟩
    rw [hb, ha, hd]
    exact b1
theorem mix_set (D H : List Int) (d : Nat) (h1 : d < D.length) (h2 : d < H.length) : ((grid_both D H).take d ++ D.drop d).set d (min (rd D d) (rd H d)) = (grid_both D H).take (d + 1) ++ D.drop (d + 1) := by
  have hl : (grid_both D H).length = min D.length H.length := by simp [grid_both]
  apply List.ext_getElem
  · simp; omega
  · intro i i1 i2
    have hi : i < D.length := by simp at i1; omega
    rw [List.getElem_set]
    split
    · rename_i e
      subst e
      rw [List.getElem_append_left (by simp; omega), List.getElem_take]
      simp [grid_both, rd, h1, h2]
    · rename_i e
      by_cases hlt : i < d
      · rw [List.getElem_append_left (by simp; omega), List.getElem_append_left (by simp; omega), List.getElem_take, List.getElem_take]
      · rw [List.getElem_append_right (by simp; omega), List.getElem_append_right (by simp; omega), List.getElem_drop, List.getElem_drop]
        congr 1
        simp
        omega
theorem mix_rd (D H : List Int) (d : Nat) (h1 : d < D.length) (h2 : d < H.length) : rd ((grid_both D H).take d ++ D.drop d) d = rd D d := by
  have hl : (grid_both D H).length = min D.length H.length := by simp [grid_both]
  simp only [rd, Int.toNat_natCast, List.getD_eq_getElem?_getD]
  rw [List.getElem?_append_right (by simp; omega), List.getElem?_drop]
  congr 2
  simp
  omega
theorem mix_length (D H : List Int) (d : Nat) (h1 : d ≤ D.length) (h2 : d ≤ H.length) : ((grid_both D H).take d ++ D.drop d).length = D.length := by
  have hl : (grid_both D H).length = min D.length H.length := by simp [grid_both]
  simp
  omega
set_option maxHeartbeats 4000000 in
set_option maxRecDepth 10000 in
theorem grid_Resize.calls (k : Nat) (A0 : Option Addr) (c0 : Nat) (X : List Int) (z : Int) (A2 : Option Addr) (c2 : Nat) (D : List Int) (A3 : Option Addr) (c3 : Nat) (H : List Int) (A5 : Option Addr) (c5 : Nat) (L r : List Int) (e : Int) (w : World)
    (hr0 : Kd.C (Kd.int .u8) w A0 X.length X) (hc0 : X.length ≤ c0) (hr2 : Kd.C (Kd.int .i64) w A2 D.length D) (hc2 : D.length ≤ c2) (hr3 : Kd.C (Kd.int .i64) w A3 H.length H) (hc3 : H.length ≤ c3)
    (hr5 : Kd.C (Kd.int .u8) w A5 L.length L) (hc5 : L.length ≤ c5) (h : grid_Resize.f k X z D H L = some (r, e)) :
    Calls Try.prog 21 #[.slice A0 X.length c0, .int .i64 z, .slice A2 D.length c2, .slice A3 H.length c3, .slice A5 L.length c5] w fun E w' => ∃ v, E = .returned (.tuple #[v, .int .i64 e]) ∧ OwnB 5 w' w.heap.size v r ∧ Below w.heap.size w w' := by
  unfold grid_Resize.f at h
  replace h := Option.bind_eq_some_iff.mp h
  obtain ⟨⟨n, en⟩, hN, h⟩ := h
  obtain ⟨hE, hB4⟩ := env4_boxes (z := z) 31 3 22 22 hr0 hc0 hr2 hc2 hr3 hc3 hr5 hc5
  have HE := Aside0.mk hE
  have HB4 := Aside0.mk hB4
  have HN := Aside0.mk hN
  have HH := Aside0.mk h
  have HU := Aside0.mk (Try.underlying22)
  clear hr0 hc0 hr2 hc2 hr3 hc3 hr5 hc5 hN h hE hB4
  go_enter Try.func21, Try.ntmps21
  go_upto_region 1 with (fail)
  generalize ((((w.alloc (.cells #[.slice A0 X.length c0] 31)).alloc (.cells #[.int .i64 z] 3)).alloc (.cells #[.slice A2 D.length c2] 22)).alloc (.cells #[.slice A3 H.length c3] 22)) = w4 at HE HB4 ⊢
  obtain ⟨b0, b1, b2, b3, -, -, -, -, -, -, -, -⟩ := HE.out
  go_upto_region 2 with (go_at_call 38; refine (space_Elements.calls A2 c2 D n en _ HE.out.r2 HE.out.l2 HN.out).mono ?_; rintro e_ w' ⟨rfl, ⟨n1, rfl⟩⟩)
  have HE5 := Aside0.mk (HE.out.below (pw_below_drewN (Below.refl _ _) n1))
  have HB5 := Aside0.mk (pw_below_drewN HB4.out n1)
  clear HE HB4 HN b0 b1 b2 b3
  generalize w4.drewN n1 = w5 at HE5 HB5 ⊢
  have h := HH.out
  clear HH
  try simp only at h
  by_cases h1 : en = 0
  case neg =>
    rw [if_neg h1] at h
    cases h
    have d1 : (e == 0) = false := by simpa using h1
    go_wp2
    go_ret2
    exact ⟨_, rfl, .inl ⟨rfl, _, _, rfl⟩, HB5.out⟩
  rw [if_pos h1] at h
  subst h1
  replace h := Option.bind_eq_some_iff.mp h
  obtain ⟨⟨m, em⟩, hM, h⟩ := h
  have HM := Aside0.mk hM
  have HH := Aside0.mk h
  clear hM h
  obtain ⟨b0, b1, b2, b3, -, -, -, -, -, -, -, -⟩ := HE5.out
  go_upto_region 5 with (go_at_call 38; refine (space_Elements.calls A3 c3 H m em _ HE5.out.r3 HE5.out.l3 HM.out).mono ?_; rintro e_ w' ⟨rfl, ⟨n2, rfl⟩⟩)
  have HE6 := Aside0.mk (HE5.out.below (pw_below_drewN (Below.refl _ _) n2))
  have HB6 := Aside0.mk (pw_below_drewN HB5.out n2)
  clear HE5 HB5 HM b0 b1 b2 b3
  generalize w5.drewN n2 = w6 at HE6 HB6 ⊢
  have h := HH.out
  clear HH
  try simp only at h
  by_cases h1 : em = 0
  case neg =>
    rw [if_neg h1] at h
    cases h
    have d1 : (e == 0) = false := by simpa using h1
    go_wp2
    go_ret2
    exact ⟨_, rfl, .inl ⟨rfl, _, _, rfl⟩, HB6.out⟩
  rw [if_pos h1] at h
  subst h1
  obtain ⟨b0, b1, b2, b3, -, -, -, -, -, -, -, -⟩ := HE6.out
  by_cases hl : D.length = H.length
  case neg =>
    rw [if_neg hl] at h
    cases h
    have d1 : ((D.length : Int) == (H.length : Int)) = false := by simpa using (show ¬ ((D.length : Int) = (H.length : Int)) by omega)
    have d2 : ((D.length : Int) = (H.length : Int)) = False := eq_false (by omega)
    clear hl
    go_wp2
    go_ret2
    exact ⟨_, rfl, .inl ⟨rfl, _, _, rfl⟩, HB6.out⟩
  rw [if_pos hl] at h
  have d1 : ((D.length : Int) == (H.length : Int)) = true := by simpa using (show ((D.length : Int) = (H.length : Int)) by omega)
  have d2 : ((D.length : Int) = (H.length : Int)) = True := eq_true (by omega)
  have d3 : ((D.length : Int) != (H.length : Int)) = false := by simpa using (show ((D.length : Int) = (H.length : Int)) by omega)
  have HLEN := Aside0.mk hl
  clear hl
  replace h := Option.bind_eq_some_iff.mp h
  obtain ⟨e2, hf2, h⟩ := h
  have HF2 := Aside0.mk hf2
  have HH := Aside0.mk h
  clear hf2 h
  go_upto_region 10 with (go_at_call 37; refine (grid_sized.calls k z (some ⟨w6.heap.size, 0, none⟩) 2 [D, H] e2 _ (two_rows (World.alloc_heap_new _ _) (Kd.C_alloc HE6.out.r2 _) HE6.out.l2 (Kd.C_alloc HE6.out.r3 _) HE6.out.l3) (Nat.le_refl _) HF2.out).mono ?_; rintro e_ w' ⟨rfl, ⟨n3, rfl⟩⟩)
  have hb7 := pw_below_drewN (below_alloc (Below.refl w6.heap.size w6) (.cells #[.slice A2 D.length c2, .slice A3 H.length c3] 22)) n3
  have HE8 := Aside0.mk (HE6.out.below hb7)
  have HB8 := Aside0.mk (pw_below_drewN (HB6.out.alloc HB6.out.size (.cells #[.slice A2 D.length c2, .slice A3 H.length c3] 22)) n3)
  clear HE6 HB6 HF2 b0 b1 b2 b3 hb7 d1 d2 d3
  generalize (w6.alloc (.cells #[.slice A2 D.length c2, .slice A3 H.length c3] 22)).drewN n3 = w8 at HE8 HB8 ⊢
  have h := HH.out
  clear HH
  by_cases h1 : e2 = 0
  case neg =>
    rw [if_neg h1] at h
    cases h
    have d1 : (e == 0) = false := by simpa using h1
    go_wp2
    go_ret2
    exact ⟨_, rfl, .inl ⟨rfl, _, _, rfl⟩, HB8.out⟩
  rw [if_pos h1] at h
  subst h1
  obtain ⟨b0, b1, b2, b3, -, -, -, -, -, -, -, -⟩ := HE8.out
  by_cases x1 : (X.length : Int) = wrap64 (n * z)
  case neg =>
    rw [if_neg (fun q => x1 q.1)] at h
    cases h
    have d1 : ((X.length : Int) == wrap64 (n * z)) = false := by simpa using x1
    go_wp2
    go_ret2
    exact ⟨_, rfl, .inl ⟨rfl, _, _, rfl⟩, HB8.out⟩
  have d1 : ((X.length : Int) == wrap64 (n * z)) = true := by simpa using x1
  have q1 : ((X.length : Int) = wrap64 (n * z)) = True := eq_true x1
  have m1 : ((X.length : Int) != wrap64 (n * z)) = false := by simpa using x1
  by_cases x2 : (L.length : Int) = z
  case neg =>
    rw [if_neg (fun q => x2 q.2)] at h
    cases h
    have d2 : ((L.length : Int) == z) = false := by simpa using x2
    have q2 : ((L.length : Int) = z) = False := eq_false x2
    clear x1
    go_wp2
    go_ret2
    exact ⟨_, rfl, .inl ⟨rfl, _, _, rfl⟩, HB8.out⟩
  have d2 : ((L.length : Int) == z) = true := by simpa using x2
  have q2 : ((L.length : Int) = z) = True := eq_true x2
  have m2 : ((L.length : Int) != z) = false := by simpa using x2
  rw [if_pos ⟨x1, x2⟩] at h
  replace h := Option.bind_eq_some_iff.mp h
  obtain ⟨O, hO, h⟩ := h
  replace h := Option.bind_eq_some_iff.mp h
  obtain ⟨D', hC, h⟩ := h
  have hDD : D' = D := by
    unfold slices_Clone_int_int.f at hC
    split at hC
    · cases hC; rfl
    · cases hC
  subst hDD
  split at h
  case isFalse => cases h
  case isTrue hq =>
  replace h := Option.bind_eq_some_iff.mp h
  obtain ⟨r', hr, h⟩ := h
  cases h
  have HO := Aside0.mk hO
  have HC := Aside0.mk hC
  have HQ := Aside0.mk hq
  have HFR := Aside0.mk hr
  clear hO hC hq hr x1 x2
  have HE9 := HE8
  have HB9 := HB8
  clear HE8 HB8
  go_upto_region 15 with (go_at_call 39; refine (grid_full.calls m A5 c5 L O _ HE9.out.r5 HE9.out.l5 HO.out).mono ?_; rintro e_ w10 ⟨g, rfl, hg, hbuf, hb⟩; have HG := Aside0.mk hg; have HBF := Aside0.mk hbuf; have HBL := Aside0.mk hb; clear hg hbuf hb)
  clear b0 b1 b2 b3 d1 q1 m1 d2 q2 m2
  have hb11 : Below w8.heap.size w8 (w10.alloc (.cells #[.slice (some ⟨g, 0, none⟩) O.length O.length] 31)) := below_alloc HBL.out _
  have HE11 := Aside0.mk (HE9.out.below hb11)
  have HB11 := Aside0.mk (below_step HB9.out hb11)
  have HX11 := Aside0.mk (show (w10.alloc (.cells #[.slice (some ⟨g, 0, none⟩) O.length O.length] 31)).heap[w10.heap.size]? = some (.cells #[.slice (some ⟨g, 0, none⟩) O.length O.length] 31 (0, 0)) from World.alloc_heap_new _ _)
  have HBF11 := Aside0.mk (HBF.out.below (below_alloc (Below.refl _ _) (.cells #[.slice (some ⟨g, 0, none⟩) O.length O.length] 31)))
  have HG10 := Aside0.mk HBF.out.lt
  have HB911 := Aside0.mk hb11
  have HZ11 := Aside0.mk (show (w10.alloc (.cells #[.slice (some ⟨g, 0, none⟩) O.length O.length] 31)).heap.size = w10.heap.size + 1 from World.size_alloc _ _)
  clear hb11 HBF HBL HB9 HO
  generalize hw11 : w10.alloc (.cells #[.slice (some ⟨g, 0, none⟩) O.length O.length] 31) = w11 at HE11 HB11 HX11 HBF11 HB911 HZ11 ⊢
  clear hw11
  obtain ⟨b0, b1, b2, b3, -, -, -, -, -, -, -, -⟩ := HE11.out
  go_upto_region 16 with (go_at_call 48; refine (slices_Clone_int_int.calls A2 c2 D' D' _ HE11.out.r2 HE11.out.l2 HC.out).mono ?_; rintro e_ w12 ⟨v0, rfl, hv0, hb⟩; obtain ⟨AP, cP, rfl⟩ := Kd.R_slice hv0; have HV0 := Aside0.mk hv0; have HBL := Aside0.mk hb; clear hv0 hb)
  clear b0 b1 b2 b3
  have HQQ := Aside0.mk (show D'.length = D'.length from rfl)
  have HD4 := Aside0.mk (show D'.length ≤ 4 by have h1 := HQ.out.1; have h2 := HLEN.out; simp [grid_both] at h1; omega)
  go_wp2
  go_loopg [67] D'.length (fun kq v67 W => ∃ d : Nat, v67 = .int .i64 (d : Int) ∧ Aside0 (d ≤ D'.length ∧ D'.length ≤ d + kq) ∧ Aside0 (Kd.R (Kd.int .i64) 3 W w11.heap.size (fun _ => True) (.slice AP D'.length cP) ((grid_both D' H).take d ++ D'.drop d)) ∧ Aside0 (Below w11.heap.size w11 W))
  case atStart => exact ⟨0, rfl, ⟨Nat.zero_le _, by omega⟩, HV0, HBL⟩
  case round =>
    obtain ⟨d, rfl, HI, HR, HB⟩ := hrel
    clear HV0 HBL
    by_cases hd : d < D'.length
    · have c1 : decide ((d : Int) < (D'.length : Int)) = true := by simp; omega
      have hmlen : ((grid_both D' H).take d ++ D'.drop d).length = D'.length := by rw [mix_length D' H d (by have := HQQ.out; omega) (by have := HQQ.out; have := HLEN.out; omega)]
      have hm1 := mix_rd D' H d (by have := HQQ.out; omega) (by have := HQQ.out; have := HLEN.out; omega)
      have hm2 := mix_set D' H d (by have := HQQ.out; omega) (by have := HQQ.out; have := HLEN.out; omega)
      have HDL := Aside0.mk hd
      have n2 : (d < D'.length) = True := eq_true hd
      clear hd
      go_upto_region 19 with (fail)
      have hRd := Kd.R_drew HR.out
      have hBd := below_drew1 HB.out
      have hEd := HE11.out.below hBd
      obtain ⟨go, co, eo, gb, gl, cl, hG⟩ := Kd.R_form hRd (by rw [hmlen]; have := HDL.out; omega)
      rw [hmlen] at eo
      cases eo
      have hc1 := Kd.R_celln 0 hRd (d : Int) (by omega) (by have := HDL.out; omega)
      obtain ⟨hx1, hf1⟩ := hc1
      rw [show rdOf 0 ((grid_both D' H).take d ++ D'.drop d) (d : Int) = rd D' (d : Int) from hm1] at hx1
      rw [Int.toNat_natCast] at hx1 hf1
      obtain ⟨ad2, e2, hx2⟩ := Kd.at_int hEd.r3 (d : Int) (by omega) (by have := HDL.out; have := HQQ.out; have := HLEN.out; omega)
      rw [Int.toNat_natCast] at hx2
      have hb3 := hEd.b3
      cases e2
      have hP := Kd.R_putn hRd (d : Int) (min (rd D' d) (rd H d))
      rw [Int.toNat_natCast] at hP
      rw [hm2] at hP
      have HP := Aside0.mk hP
      have HGB := Aside0.mk gb
      have HBD := Aside0.mk hBd
      have p1 : (0 ≤ (d : Int)) = True := eq_true (by omega)
      have p2 : ((d : Int) < (D'.length : Int)) = True := eq_true (by have := HDL.out; omega)
      have n3 : (d < H.length) = True := eq_true (by have := HDL.out; have := HQQ.out; have := HLEN.out; omega)
      have p3 : ((d : Int) < (H.length : Int)) = True := eq_true (by have := HDL.out; have := HQQ.out; have := HLEN.out; omega)
      clear hEd hBd hRd hP hm1 hm2 hmlen hG gb
      refine start_ (n := 13) (S := fun w' => w'.cell? ⟨go, d, none⟩ = some (.int .i64 (rd D' d)) ∧ w'.cell? ⟨w.heap.size + 1 + 1 + 1, 0, none⟩ = some (.slice (some ad2) H.length c3) ∧ w'.cell? (ad2.add d) = some (.int .i64 (rd H d))) (ds := [12]) #[false, false, false, false, false, false, false, false, false, false, false, false, false] (by kernel_rfl) rfl rfl ⟨hx1, hb3, hx2⟩ (fun hHeld => ?_)
      refine pure_ (i := 0) (N := some 70) (v := ?_) (a' := ?_) #[true, false, false, false, false, false, false, false, false, false, false, false, false] rfl rfl (by kernel_rfl) (fun _ _ _ h => h) (Or.inl ⟨by rfl, ?_⟩) ?_ ?_
      rotate_left
      · intro w'
        go_simp
        with_reducible rfl
      rotate_left
      · simp only [Act.put, List.setIfInBounds_toArray, List.set_cons_zero, List.set_cons_succ, i64_w, i32_w]
        rfl
      refine pure_ (i := 1) (N := some 71) (v := ?_) (a' := ?_) #[true, true, false, false, false, false, false, false, false, false, false, false, false] rfl rfl (by kernel_rfl) (fun _ _ _ h => h) (Or.inl ⟨by rfl, ?_⟩) ?_ ?_
      rotate_left
      · intro w'
        go_simp
        with_reducible rfl
      rotate_left
      · simp only [Act.put, List.setIfInBounds_toArray, List.set_cons_zero, List.set_cons_succ, i64_w, i32_w]
        rfl
      refine pure_ (i := 2) (N := some 72) (v := ?_) (a' := ?_) #[true, true, true, false, false, false, false, false, false, false, false, false, false] rfl rfl (by kernel_rfl) (fun _ _ _ h => h) (Or.inl ⟨by rfl, ?_⟩) ?_ ?_
      rotate_left
      · intro w'
        go_simp
        with_reducible rfl
      rotate_left
      · simp only [Act.put, List.setIfInBounds_toArray, List.set_cons_zero, List.set_cons_succ, i64_w, i32_w]
        rfl
      refine pure_ (i := 3) (N := some 73) (v := ?_) (a' := ?_) #[true, true, true, true, false, false, false, false, false, false, false, false, false] rfl rfl (by kernel_rfl) (fun _ _ _ h => h) (Or.inl ⟨by rfl, ?_⟩) ?_ ?_
      rotate_left
      · intro w'
        go_simp
        with_reducible rfl
      rotate_left
      · simp only [Act.put, List.setIfInBounds_toArray, List.set_cons_zero, List.set_cons_succ, i64_w, i32_w]
        rfl
      refine pure_ (i := 4) (N := some 74) (v := ?_) (a' := ?_) #[true, true, true, true, true, false, false, false, false, false, false, false, false] rfl rfl (by kernel_rfl) (fun _ _ _ h => h) (Or.inl ⟨by rfl, ?_⟩) ?_ ?_
      rotate_left
      · intro w'
        go_simp
        with_reducible rfl
      rotate_left
      · simp only [Act.put, List.setIfInBounds_toArray, List.set_cons_zero, List.set_cons_succ, i64_w, i32_w]
        rfl
      refine pure_ (i := 7) (N := some 77) (v := ?_) (a' := ?_) #[true, true, true, true, true, false, false, true, false, false, false, false, false] rfl rfl (by kernel_rfl) (fun _ _ _ h => h) (Or.inl ⟨by rfl, ?_⟩) ?_ ?_
      rotate_left
      · intro w'
        go_simp
        with_reducible rfl
      rotate_left
      · simp only [Act.put, List.setIfInBounds_toArray, List.set_cons_zero, List.set_cons_succ, i64_w, i32_w]
        rfl
      refine take_ (i := 5) (N := some 75) (v := ?_) (a' := ?_) #[true, true, true, true, true, true, false, true, false, false, false, false, false] rfl rfl (by kernel_rfl) (fun _ _ _ h => h) (Or.inl ⟨by rfl, ?_⟩) hHeld ?_ ?_
      rotate_left
      · rintro w' ⟨s1, s2, s3⟩
        go_simp
        with_reducible rfl
      rotate_left
      · simp only [Act.put, List.setIfInBounds_toArray, List.set_cons_zero, List.set_cons_succ, i64_w, i32_w]
        rfl
      refine take_ (i := 6) (N := some 76) (v := ?_) (a' := ?_) #[true, true, true, true, true, true, true, true, false, false, false, false, false] rfl rfl (by kernel_rfl) (fun _ _ _ h => h) (Or.inl ⟨by rfl, ?_⟩) hHeld ?_ ?_
      rotate_left
      · rintro w' ⟨s1, s2, s3⟩
        go_simp
        with_reducible rfl
      rotate_left
      · simp only [Act.put, List.setIfInBounds_toArray, List.set_cons_zero, List.set_cons_succ, i64_w, i32_w]
        rfl
      refine pure_ (i := 8) (N := some 78) (v := ?_) (a' := ?_) #[true, true, true, true, true, true, true, true, true, false, false, false, false] rfl rfl (by kernel_rfl) (fun _ _ _ h => h) (Or.inl ⟨by rfl, ?_⟩) ?_ ?_
      rotate_left
      · intro w'
        go_simp
        with_reducible rfl
      rotate_left
      · simp only [Act.put, List.setIfInBounds_toArray, List.set_cons_zero, List.set_cons_succ, i64_w, i32_w]
        rfl
      refine take_ (i := 9) (N := some 79) (v := ?_) (a' := ?_) #[true, true, true, true, true, true, true, true, true, true, false, false, false] rfl rfl (by kernel_rfl) (fun _ _ _ h => h) (Or.inl ⟨by rfl, ?_⟩) hHeld ?_ ?_
      rotate_left
      · rintro w' ⟨s1, s2, s3⟩
        go_simp
        with_reducible rfl
      rotate_left
      · simp only [Act.put, List.setIfInBounds_toArray, List.set_cons_zero, List.set_cons_succ, i64_w, i32_w]
        rfl
      refine pure_ (i := 10) (N := some 80) (v := ?_) (a' := ?_) #[true, true, true, true, true, true, true, true, true, true, true, false, false] rfl rfl (by kernel_rfl) (fun _ _ _ h => h) (Or.inl ⟨by rfl, ?_⟩) ?_ ?_
      rotate_left
      · intro w'
        go_simp
        with_reducible rfl
      rotate_left
      · simp only [Act.put, List.setIfInBounds_toArray, List.set_cons_zero, List.set_cons_succ, i64_w, i32_w]
        rfl
      refine pure_ (i := 11) (N := some 81) (v := ?_) (a' := ?_) #[true, true, true, true, true, true, true, true, true, true, true, true, false] rfl rfl (by kernel_rfl) (fun _ _ _ h => h) (Or.inl ⟨by rfl, ?_⟩) ?_ ?_
      rotate_left
      · intro w'
        go_simp
        with_reducible rfl
      rotate_left
      · simp only [Act.put, List.setIfInBounds_toArray, List.set_cons_zero, List.set_cons_succ, i64_w, i32_w]
        rfl
      refine last_ (i := 12) (N := none) #[true, true, true, true, true, true, true, true, true, true, true, true, true] rfl rfl (by kernel_rfl) (by decide) (fun K hK => ?_)
      refine skip_ (w1 := ?_) (by rfl) rfl ?_ ?_
      rotate_left
      · go_simp
        rfl
      refine hK.out _ _ ?_
      clear hK K
      refine done_ (by kernel_rfl) ?_
      have hmin : (if rd H (d : Int) < rd D' (d : Int) then rd H (d : Int) else rd D' (d : Int)) = min (rd D' (d : Int)) (rd H (d : Int)) := by
        split <;> omega
      rw [hmin]
      have hB2 := Aside0.mk (show Below w11.heap.size w11 (wr.drew.setCell ⟨go, d, none⟩ (.int .i64 (min (rd D' (d : Int)) (rd H (d : Int))))) from HBD.out.setCell (p := ⟨go, d, none⟩) HGB.out _)
      generalize hwx : (wr.setCell ⟨go, d, none⟩ (.int .i64 (min (rd D' (d : Int)) (rd H (d : Int))))).drew = w20
      have hwy : wr.drew.setCell ⟨go, d, none⟩ (.int .i64 (min (rd D' (d : Int)) (rd H (d : Int)))) = w20 := hwx
      rw [hwy] at HP hB2
      clear hwx hwy hmin
      go_wp2
      go_roundg (gk - 1)
      case measure => have := HI.out; have := HDL.out; omega
      case rel => exact ⟨d + 1, by have := HDL.out; have := HD4.out; rw [show wrap64 ((d : Int) + 1) = ((d + 1 : Nat) : Int) by unfold wrap64; omega], ⟨by have := HI.out; have := HDL.out; omega, by have := HI.out; have := HDL.out; omega⟩, HP, hB2⟩
    · have hdd : d = D'.length := by have := HI.out; omega
      have c1 : decide ((d : Int) < (D'.length : Int)) = false := by simp; omega
      have n2 : (d < D'.length) = False := eq_false hd
      have hrow : (grid_both D' H).take d ++ D'.drop d = grid_both D' H := by
        rw [hdd, List.drop_length, List.append_nil, List.take_of_length_le (by simp [grid_both]; omega)]
      rw [hrow] at HR
      have hbl : (grid_both D' H).length = D'.length := by have := HLEN.out; simp [grid_both]; omega
      rw [← hbl] at HR
      have hsz := HB.out.size
      have hlt : g < w10.heap.size := HG10.out
      have hz11 := HZ11.out
      have HM13 := Aside0.mk (show ∀ aX, A0 = some aX → Foot (grid_Resize1Mem (w.heap.size + 1 + 1) A2 c2 D' (w.heap.size + 1) z (w.heap.size + 1 + 1 + 1) A3 c3 H w10.heap.size g O.length O.length w.heap.size aX c0 X) wr (fun k => k < wr.heap.size ∧ k ≠ g) from by
        rintro aX rfl W hW
        have hE := (((HE9.out.foot).step (W1 := wr) (fun k _ hk => (below_step HB911.out HB.out).block k hk)).mono (ok' := fun k => k < wr.heap.size ∧ k ≠ g) (fun k hk => ⟨by have := HB911.out.size; omega, by have := HG.out; omega⟩)) W hW
        exact ⟨hE.b2, hE.b1, hE.b3, (blk_cell ((hW w10.heap.size ⟨by omega, by omega⟩ (by omega)).trans ((HB.out.block _ (by omega)).trans HX11.out)) 0).trans rfl, hE.b0, hE.r2, hE.l2, hE.r3, hE.l3, Nat.le_refl _, hE.r0, hE.l0⟩)
      have HP13 := Aside0.mk (show Foot (fun W => Kd.C (Kd.int .i64) W AP (grid_both D' H).length (grid_both D' H)) wr (fun k => k < wr.heap.size ∧ k ≠ g) from by
        intro W hW
        exact (Kd.R_F (Kd.R_mono (ok' := fun k => w11.heap.size ≤ k ∧ k < wr.heap.size) (Kd.R_bound HR.out) (fun k hk => ⟨hk.2.1, hk.2.2.1⟩))) W (fun k hk hl => hW k ⟨hl, by omega⟩ hl))
      have HX13 := Aside0.mk ((HB.out.block _ (by omega)).trans HX11.out)
      have HBF13 := Aside0.mk (HBF11.out.step (HB.out.block g (by omega)))
      have HB13 := Aside0.mk (below_step HB11.out HB.out)
      have HG13 := Aside0.mk (show g < wr.heap.size by omega)
      have HGB := Aside0.mk (show w.heap.size ≤ g from Nat.le_trans (Nat.le_of_lt (World.block_lt_of_cell? _ _ HE9.out.b0)) HG.out)
      have HCP := Aside0.mk (Kd.R_reads' HR.out).2.1
      have HAX := Aside0.mk (u8_addr HE9.out.r0)
      have HNE := Aside0.mk (show ¬ some w10.heap.size = some g from fun e => by injection e with e; omega)
      have HBL := Aside0.mk hbl
      clear hsz hlt hz11 HE9 HE11 HB11 HX11 HBF11 HB911 HZ11 HG10 hrow hdd HR HB hbl hd
      have HROWS := Aside0.mk (show Calls Try.prog 40 #[.slice AP D'.length cP, .func (.func 49) #[] #[.pointer (some ⟨w.heap.size + 1 + 1, 0, none⟩), .pointer (some ⟨w.heap.size + 1, 0, none⟩), .pointer (some ⟨w.heap.size + 1 + 1 + 1, 0, none⟩), .pointer (some ⟨w10.heap.size, 0, none⟩), .pointer (some ⟨w.heap.size, 0, none⟩)]] wr fun e w' => e = .returned (.tuple #[]) ∧ ∃ O', grid_resFold k D' z H X O.length O (rowsOf (grid_both D' H)) = some O' ∧ Buf 5 w' g O.length O' ∧ wr.grownBy w' (some g) from by
        have := grid_rows 49 _ _ AP cP (grid_both D' H) _ (res_each k (w.heap.size + 1 + 1) (w.heap.size + 1) (w.heap.size + 1 + 1 + 1) w10.heap.size w.heap.size A2 c2 D' z A3 c3 H g O.length O.length (Nat.le_refl _) A0 c0 X AP (grid_both D' H) O r wr HM13.out HAX.out HP13.out HG13.out rfl HFR.out) ⟨O, rfl, HBF13.out, ⟨rfl, rfl, rfl, Nat.le_refl _, fun _ _ _ => rfl⟩⟩ HQ.out.1 HQ.out.2 HCP.out
        rw [HBL.out] at this
        exact this)
      clear HM13 HP13
      go_upto_region 22 with (go_at_call 40; refine (HROWS.out).mono ?_; rintro e_ w14 ⟨rfl, ⟨O', h1, h2, h3⟩⟩; have H1 := Aside0.mk h1; have H2 := Aside0.mk h2; have H3 := Aside0.mk h3; clear h1 h2 h3)
      have e1 := HFR.out.symm.trans H1.out
      cases e1
      have hl := resFold_length _ _ _ rfl HFR.out
      have bo : w14.cell? ⟨w10.heap.size, 0, none⟩ = some (.slice (some ⟨g, 0, none⟩) O.length O.length) := (blk_cell ((H3.out.block _ (World.block_lt_of_cell? wr ⟨w10.heap.size, 0, none⟩ ((blk_cell HX13.out 0).trans rfl)) HNE.out).trans HX13.out) 0).trans rfl
      go_wp2
      go_ret2
      exact ⟨_, rfl, .inr ⟨g, _, by rw [hl]; rfl, by rw [hl]; exact Nat.le_refl _, HGB.out, by rw [hl]; exact H2.out⟩, HB13.out.grown H3.out HB13.out.size (fun k e => by cases e; exact HGB.out)⟩
end
end Go.Proofs.Ytjbjofmcmjojlab.Wk
end
section
namespace Go.Proofs.Ytjbjofmcmjojlab.Wk
open Go.RowKit Go.Proofs.YtjbjofmcmjojlabW.PrintWords Go.Proofs.YtjbjofmcmjojlabW.PrintLast Go.Proofs.YtjbjofmcmjojlabW.PrintMore
attribute [local go_sem] max2_int min2_int max_two min_two max_three min_three max_four min_four
set_option linter.unusedVariables false
set_option linter.unusedSimpArgs false
def badShape (x : Int) : Bool := decide (x < 1) || decide (1048576 < x)
theorem predFit (w : World) : PredAt 53 #[] badShape w := by
  refine ⟨fun _ _ => rfl, fun x n => ?_⟩
  by_cases h : x < 1
  · go_enter Try.func53, Try.ntmps53
    go_wp2
    go_ret
    exact ⟨by simp [badShape, h], ⟨_, rfl⟩⟩
  · have h1 : decide (x < 1) = false := by simpa using h
    go_enter Try.func53, Try.ntmps53
    go_wp2
    go_ret
    exact ⟨by simp [badShape, h1], ⟨_, rfl⟩⟩
def grid_fit.f (l0 l1 : List Int) : Option Int :=
  (space_Elements.f l0).bind fun a => if a.2 = 0 then (if l1.length = l0.length then (if l1.length ≤ maxLen then (if l1.any badShape = true then some 2 else (space_Elements.f l1).bind fun b => some b.2) else none) else some 2) else some a.2
set_option maxHeartbeats 1000000 in
theorem grid_fit.calls (A0 : Option Addr) (c0 : Nat) (l0 : List Int) (A1 : Option Addr) (c1 : Nat) (l1 : List Int) (r : Int) (w : World) (hr0 : Kd.C (Kd.int .i64) w A0 l0.length l0) (hc0 : l0.length ≤ c0) (hr1 : Kd.C (Kd.int .i64) w A1 l1.length l1) (hc1 : l1.length ≤ c1) (h : grid_fit.f l0 l1 = some r) :
    Calls Try.prog 33 #[.slice A0 l0.length c0, .slice A1 l1.length c1] w fun e w' => e = .returned (.int .i64 r) ∧ Drawn0 w w' := by
  unfold grid_fit.f at h
  replace h := Option.bind_eq_some_iff.mp h
  obtain ⟨⟨n, e⟩, ha, h⟩ := h
  have HA := Aside0.mk ha
  have HR0 := Aside0.mk hr0
  have HC0 := Aside0.mk hc0
  have HR1 := Aside0.mk hr1
  have HC1 := Aside0.mk hc1
  clear ha hr0 hc0 hr1 hc1
  simp only at h
  by_cases he : e = 0
  · subst he
    rw [if_pos rfl] at h
    by_cases hl : l1.length = l0.length
    · rw [if_pos hl] at h
      by_cases hm : l1.length ≤ maxLen
      case neg => rw [if_neg hm] at h; cases h
      rw [if_pos hm] at h
      have e1 : ((l1.length : Int) != (l0.length : Int)) = false := by simp [hl]
      have e2 : (l1.length != l0.length) = false := by simp [hl]
      have e3 : ((l1.length : Int) == (l0.length : Int)) = true := by simp [hl]
      have HM := Aside0.mk hm
      clear hl hm
      cases hb : l1.any badShape with
      | true =>
        have HB := Aside0.mk hb
        rw [HB.out, if_pos rfl] at h
        cases h
        clear hb
        go_enter Try.func33, Try.ntmps33
        go_wp2_with (first
          | (go_at_call 38; refine (space_Elements.calls _ _ l0 n 0 _ HR0.out HC0.out HA.out).mono ?_; rintro e_ w1 ⟨rfl, ⟨n1, rfl⟩⟩)
          | (go_at_call 52; refine (ContainsFunc_int 53 #[] badShape _ _ l1 _ (predFit _) (Kd.C_drewN HR1.out _) HM.out).mono ?_; rintro e_ w' ⟨rfl, ⟨n2, rfl⟩⟩; rw [HB.out]))
        go_ret
        exact ⟨rfl, by first | exact Drawn0.refl _ | exact ⟨_, rfl⟩⟩
      | false =>
        have HB := Aside0.mk hb
        rw [HB.out, if_neg (by simp)] at h
        replace h := Option.bind_eq_some_iff.mp h
        obtain ⟨⟨n2, e2⟩, hE, h⟩ := h
        cases h
        have HE := Aside0.mk hE
        clear hb hE
        go_enter Try.func33, Try.ntmps33
        go_upto_region 4 with (go_at_call 38; refine (space_Elements.calls _ _ l0 n 0 _ HR0.out HC0.out HA.out).mono ?_; rintro e_ w1 ⟨rfl, ⟨n1, rfl⟩⟩)
        go_upto_region 6 with (go_at_call 52; refine (ContainsFunc_int 53 #[] badShape _ _ l1 _ (predFit _) (Kd.C_drewN HR1.out _) HM.out).mono ?_; rintro e_ w' ⟨rfl, ⟨n2, rfl⟩⟩; rw [HB.out])
        go_wp2_with (go_at_call 38; refine (space_Elements.calls _ _ l1 _ _ _ (by repeat (first | exact HR1.out | refine Kd.C_drewN ?_ _)) HC1.out HE.out).mono ?_; rintro e_ w1 ⟨rfl, ⟨n3, rfl⟩⟩)
        go_ret
        exact ⟨rfl, by first | exact Drawn0.refl _ | exact ⟨_, rfl⟩⟩
    · rw [if_neg hl] at h
      cases h
      have e1 : ((l1.length : Int) != (l0.length : Int)) = true := by simpa using fun h => hl (by omega)
      have e2 : (l1.length != l0.length) = true := by simpa using hl
      have e3 : ((l1.length : Int) == (l0.length : Int)) = false := by simpa using fun h => hl (by omega)
      clear hl
      go_enter Try.func33, Try.ntmps33
      go_wp2_with (go_at_call 38; refine (space_Elements.calls _ _ l0 n 0 _ HR0.out HC0.out HA.out).mono ?_; rintro e_ w1 ⟨rfl, ⟨n1, rfl⟩⟩)
      go_ret
      exact ⟨rfl, by first | exact Drawn0.refl _ | exact ⟨_, rfl⟩⟩
  · rw [if_neg he] at h
    cases h
    have he1 : (r == 0) = false := by simpa using he
    have he2 : (r != 0) = true := by simpa using he
    go_enter Try.func33, Try.ntmps33
    go_wp2_with (go_at_call 38; refine (space_Elements.calls _ _ l0 n r _ HR0.out HC0.out HA.out).mono ?_; rintro e_ w1 ⟨rfl, ⟨n1, rfl⟩⟩)
    go_ret
    exact ⟨rfl, by first | exact Drawn0.refl _ | exact ⟨_, rfl⟩⟩
end Go.Proofs.Ytjbjofmcmjojlab.Wk
end
section
namespace Go.Proofs.Ytjbjofmcmjojlab.Wk
open Go.RowKit Go.Proofs.YtjbjofmcmjojlabW.PrintWords Go.Proofs.YtjbjofmcmjojlabW.PrintLast Go.Proofs.YtjbjofmcmjojlabW.PrintMore
attribute [local go_sem] max2_int min2_int max_two min_two max_three min_three max_four min_four
set_option linter.unusedVariables false
set_option linter.unusedSimpArgs false
def negCoord (x : Int) : Bool := decide (x < 0)
theorem predRight (w : World) : PredAt 54 #[] negCoord w := by
  refine ⟨fun _ _ => rfl, fun x n => ?_⟩
  go_enter Try.func54, Try.ntmps54
  go_wp2
  go_ret
  exact ⟨rfl, ⟨_, rfl⟩⟩
def grid_right.f (l0 : List Int) (a1 : Int) : Option Bool := if l0.length ≤ maxLen then some (decide ((l0.length : Int) = a1) && !l0.any negCoord) else none
set_option maxHeartbeats 1000000 in
theorem grid_right.calls (A0 : Option Addr) (c0 : Nat) (l0 : List Int) (a1 : Int) (r : Bool) (w : World) (hr0 : Kd.C (Kd.int .i64) w A0 l0.length l0) (hc0 : l0.length ≤ c0) (h : grid_right.f l0 a1 = some r) :
    Calls Try.prog 34 #[.slice A0 l0.length c0, .int .i64 a1] w fun e w' => e = .returned (.bool r) ∧ Drawn0 w w' := by
  unfold grid_right.f at h
  by_cases hm : l0.length ≤ maxLen
  case neg => rw [if_neg hm] at h; cases h
  rw [if_pos hm] at h
  replace h := Option.some.inj h
  have HR0 := Aside0.mk hr0
  have HM := Aside0.mk hm
  clear hr0 hm
  by_cases hl : (l0.length : Int) = a1
  · have e1 : ((l0.length : Int) == a1) = true := by simpa using hl
    have hd : decide ((l0.length : Int) = a1) = true := by simpa using hl
    rw [hd] at h
    subst h
    clear hd hl
    go_enter Try.func34, Try.ntmps34
    go_wp2_with (go_at_call 52; refine (ContainsFunc_int 54 #[] negCoord _ _ l0 _ (predRight _) HR0.out HM.out).mono ?_; rintro e_ w' ⟨rfl, ⟨n2, rfl⟩⟩)
    go_ret
    exact ⟨by simp, by first | exact Drawn0.refl _ | exact ⟨_, rfl⟩⟩
  · have e1 : ((l0.length : Int) == a1) = false := by simpa using hl
    have hd : decide ((l0.length : Int) = a1) = false := by simpa using hl
    rw [hd] at h
    subst h
    clear hd hl
    go_enter Try.func34, Try.ntmps34
    go_wp2
    go_ret
    exact ⟨by simp, by first | exact Drawn0.refl _ | exact ⟨_, rfl⟩⟩
end Go.Proofs.Ytjbjofmcmjojlab.Wk
end
section
namespace Go.Proofs.Ytjbjofmcmjojlab.Wk
open Go.RowKit Go.Proofs.YtjbjofmcmjojlabW.PrintWords Go.Proofs.YtjbjofmcmjojlabW.PrintLast Go.Proofs.YtjbjofmcmjojlabW.PrintMore
attribute [local go_sem] max2_int min2_int max_two min_two max_three min_three max_four min_four
set_option linter.unusedVariables false
set_option linter.unusedSimpArgs false
def grid_Clip.l0 : Nat → List Int → List Int → List Int → List Int → List Int → Int → Int → Option (List Int × List Int × Int)
  | 0, _, _, _, _, _, _, _ => none
  | k + 1, x0, x1, x6, x7, x24, x25, x26 => if x26 < x25 then (if 0 ≤ x26 then (if x26 < (x24.length : Int) then (if x26 < (x0.length : Int) then (if x26 < (x1.length : Int) then (if (rd x1 x26) = 0 then (none) else (if (rd x24 x26) ≤ (wrap64 (Int.tdiv (rd x0 x26) (rd x1 x26))) then (if x6.length < 17592186044416 then (if x7.length < 17592186044416 then (grid_Clip.l0 k x0 x1 (x6 ++ [mn (wrap64 ((rd x24 x26) * (rd x1 x26))) (rd x0 x26)]) (x7 ++ [mn (rd x1 x26) (wrap64 ((rd x0 x26) - (mn (wrap64 ((rd x24 x26) * (rd x1 x26))) (rd x0 x26))))]) x24 x25 (wrap64 (x26 + 1))) else (none)) else (none)) else (if x6.length < 17592186044416 then (if x7.length < 17592186044416 then (grid_Clip.l0 k x0 x1 (x6 ++ [rd x0 x26]) (x7 ++ [mn (rd x1 x26) (wrap64 ((rd x0 x26) - (rd x0 x26)))]) x24 x25 (wrap64 (x26 + 1))) else (none)) else (none)))) else (none)) else (none)) else (none)) else (none)) else (some (x6, x7, 0))
def grid_Clip.f (k : Nat) (l0 : List Int) (l1 : List Int) (l2 : List Int) : Option (List Int × List Int × Int) := (grid_fit.f l0 l1).bind fun t105 => (if t105 = 0 then ((grid_right.f l2 (l0.length : Int)).bind fun t106 => (if t106 = true then (grid_Clip.l0 k l0 l1 ([] : List Int) ([] : List Int) l2 (l2.length : Int) 0) else (some (([] : List Int), ([] : List Int), 2)))) else (some (([] : List Int), ([] : List Int), t105)))
def grid_Clip.T10 : Bool × List (List Nat × List Nat) := (true, [([], []), ([], []), ([], []), ([1, 2], [1, 2]), ([3], [3]), ([], []), ([], []), ([5, 6], [5, 6]), ([7], [7]), ([4, 8], [4, 8]), ([0, 9], [0, 9])])
def grid_Clip.B10 : List Nat := [0, 0, 0, 6, 14, 0, 0, 96, 224, 510, 1023]
theorem grid_Clip.tab10 : rtab .any (opsOf Try.f11 10) = grid_Clip.T10 := by kernel_rfl
theorem grid_Clip.bits10 : waitsOk grid_Clip.T10.2 grid_Clip.B10 = true := by kernel_rfl
def grid_Clip.T13 : Bool × List (List Nat × List Nat) := (true, [([], []), ([], []), ([], []), ([1, 2], [1, 2]), ([3], [3]), ([], []), ([], []), ([5, 6], [5, 6]), ([7], [7]), ([], []), ([8, 9], [8, 9]), ([4, 10], [4, 10]), ([11], [11]), ([0, 12], [0, 12]), ([13, 13, 0, 1, 2, 3, 4, 5, 6, 7, 8, 9, 10, 11, 12, 13], [0, 13])])
def grid_Clip.B13 : List Nat := [0, 0, 0, 6, 14, 0, 0, 96, 224, 0, 992, 2046, 4094, 8191, 16383]
theorem grid_Clip.tab13 : rtab .any (opsOf Try.f11 13) = grid_Clip.T13 := by kernel_rfl
theorem grid_Clip.bits13 : waitsOk grid_Clip.T13.2 grid_Clip.B13 = true := by kernel_rfl
set_option maxHeartbeats 8000000 in
set_option maxRecDepth 100000 in
theorem grid_Clip.calls (k : Nat) (A0 : Option Addr) (c0 : Nat) (l0 : List Int) (A1 : Option Addr) (c1 : Nat) (l1 : List Int) (A2 : Option Addr) (c2 : Nat) (l2 : List Int) (r1 : List Int) (r2 : List Int) (r3 : Int) (w : World) (hr0 : Kd.C (Kd.int .i64) w A0 l0.length l0) (hc0 : l0.length ≤ c0) (hr1 : Kd.C (Kd.int .i64) w A1 l1.length l1) (hc1 : l1.length ≤ c1) (hr2 : Kd.C (Kd.int .i64) w A2 l2.length l2) (hc2 : l2.length ≤ c2) (h : grid_Clip.f k l0 l1 l2 = some (r1, r2, r3)) :
    Calls Try.prog 11 #[.slice A0 l0.length c0, .slice A1 l1.length c1, .slice A2 l2.length c2] w fun e w' => ∃ v0_ v1_ : Value, e = .returned (.tuple #[v0_, v1_, .int .i64 r3]) ∧ Kd.R (Kd.int .i64) 3 w' w.heap.size (fun k_ => some k_ ≠ (v1_ : Value).ownBlock) v0_ r1 ∧ Kd.R (Kd.int .i64) 3 w' w.heap.size (fun k_ => some k_ ≠ (v0_ : Value).ownBlock) v1_ r2 ∧ Below w.heap.size w w' := by
  have HR0 := Aside0.mk hr0
  have HC0 := Aside0.mk hc0
  clear hr0 hc0
  have HR1 := Aside0.mk hr1
  have HC1 := Aside0.mk hc1
  clear hr1 hc1
  have HR2 := Aside0.mk hr2
  have HC2 := Aside0.mk hc2
  clear hr2 hc2
  have HB := Aside0.mk (Below.refl w.heap.size w)
  have H : ((grid_fit.f l0 l1).bind fun t105 => (if t105 = 0 then ((grid_right.f l2 (l0.length : Int)).bind fun t106 => (if t106 = true then (grid_Clip.l0 k l0 l1 ([] : List Int) ([] : List Int) l2 (l2.length : Int) 0) else (some (([] : List Int), ([] : List Int), 2)))) else (some (([] : List Int), ([] : List Int), t105)))) = some (r1, r2, r3) := h
  clear h
  replace H := Option.bind_eq_some_iff.mp H
  obtain ⟨t105, A40, H⟩ := H
  replace H : (if t105 = 0 then ((grid_right.f l2 (l0.length : Int)).bind fun t106 => (if t106 = true then (grid_Clip.l0 k l0 l1 ([] : List Int) ([] : List Int) l2 (l2.length : Int) 0) else (some (([] : List Int), ([] : List Int), 2)))) else (some (([] : List Int), ([] : List Int), t105))) = some (r1, r2, r3) := H
  have A4 := Aside0.mk A40
  clear A40
  by_cases c5 : t105 = 0
  · rw [if_pos c5] at H
    have c5b0 : (t105 == 0) = true := beq_iff_eq.mpr c5
    have c5b1 : (t105 != 0) = false := bne_eq_false_iff_eq.mpr c5
    clear c5
    replace H := Option.bind_eq_some_iff.mp H
    obtain ⟨t106, A60, H⟩ := H
    replace H : (if t106 = true then (grid_Clip.l0 k l0 l1 ([] : List Int) ([] : List Int) l2 (l2.length : Int) 0) else (some (([] : List Int), ([] : List Int), 2))) = some (r1, r2, r3) := H
    have A6 := Aside0.mk A60
    clear A60
    by_cases c7 : t106 = true
    · subst c7
      have H1 : (grid_Clip.l0 k l0 l1 ([] : List Int) ([] : List Int) l2 (l2.length : Int) 0) = some (r1, r2, r3) := by rw [if_pos rfl] at H; exact H
      clear H
      have H := H1
      clear H1
      have H' := Aside0.mk H
      clear H
      go_enter Try.func11, Try.ntmps11
      go_wp2_with (first | ((with_reducible refine gate_callee (f := 33) rfl ?_); refine goesL_ (some 15) rfl rfl Try.func33 (by kernel_rfl) rfl #[.slice A0 l0.length c0, .slice A1 l1.length c1] rfl (by (try simp only [List.map_toArray, List.map_cons, List.map_nil]); first | done | rfl | (simp only [List.length_drop, List.length_take]; rfl)) ?_; (with_reducible refine (grid_fit.calls _ _ l0 _ _ l1 t105 _ ?side1 ?side2 ?side3 ?side4 A4.out).mono ?_); (case side1 => repeat (first | exact HR0.out | (with_reducible refine Kd.C_alloc ?_ _) | (with_reducible refine Kd.C_drewN ?_ _) | (with_reducible refine Kd.C_drew ?_))); (case side2 => exact HC0.out); (case side3 => repeat (first | exact HR1.out | (with_reducible refine Kd.C_alloc ?_ _) | (with_reducible refine Kd.C_drewN ?_ _) | (with_reducible refine Kd.C_drew ?_))); (case side4 => exact HC1.out); rintro e w' ⟨rfl, ⟨nd, rfl⟩⟩; refine ⟨_, rfl, ?_⟩) | ((with_reducible refine gate_callee (f := 34) rfl ?_); refine goesL_ (some 22) rfl rfl Try.func34 (by kernel_rfl) rfl #[.slice A2 l2.length c2, .int .i64 (l0.length : Int)] rfl (by (try simp only [List.map_toArray, List.map_cons, List.map_nil]); first | done | rfl | (simp only [List.length_drop, List.length_take]; rfl)) ?_; (with_reducible refine (grid_right.calls _ _ l2 (l0.length : Int) true _ ?side1 ?side2 A6.out).mono ?_); (case side1 => repeat (first | exact HR2.out | (with_reducible refine Kd.C_alloc ?_ _) | (with_reducible refine Kd.C_drewN ?_ _) | (with_reducible refine Kd.C_drew ?_))); (case side2 => exact HC2.out); rintro e w' ⟨rfl, ⟨nd, rfl⟩⟩; refine ⟨_, rfl, ?_⟩))
      go_loopg [6, 7, 26] k (fun kq v6 v7 v26 w' => ∃ (x6_1 : List Int) (x7_1 : List Int) (x26_1 : Int), v26 = .int .i64 x26_1 ∧ Aside0 (grid_Clip.l0 kq l0 l1 x6_1 x7_1 l2 (l2.length : Int) x26_1 = some (r1, r2, r3)) ∧ Aside0 (kq ≤ k) ∧ Aside0 (Kd.R (Kd.int .i64) 3 w' w.heap.size (fun k_ => some k_ ≠ (v7 : Value).ownBlock) v6 x6_1) ∧ Aside0 (Kd.R (Kd.int .i64) 3 w' w.heap.size (fun k_ => some k_ ≠ (v6 : Value).ownBlock) v7 x7_1) ∧ Aside0 (Below w.heap.size w w'))
      case atStart => exact ⟨(([] : List Int)), (([] : List Int)), (0), (by first | rfl | (simp; done) | (simp [*]; done)), H', ⟨Nat.le_refl _⟩, ⟨by first | exact Kd.R_nil _ _ _ _ _ | exact Kd.N_nil _ _ _ _ _ | exact Kd.V_nil _ _ _ _ _ | exact Kd.Q_nil _ _ _ _ _ | exact Kd.S_nil _ _ _ _ _⟩, ⟨by first | exact Kd.R_nil _ _ _ _ _ | exact Kd.N_nil _ _ _ _ _ | exact Kd.V_nil _ _ _ _ _ | exact Kd.Q_nil _ _ _ _ _ | exact Kd.S_nil _ _ _ _ _⟩, ⟨by repeat (first | (with_reducible first | exact HB.out | apply below_alloc | apply pw_below_drewN | apply below_drew1) | exact HB.out)⟩⟩
      case round =>
        clear H'
        try clear c1
        try clear c2
        try clear p2
        try clear c3
        try clear c5
        try clear c5b0
        try clear c5b1
        try clear c7
        obtain ⟨x6_1, x7_1, x26_1, rfl, HA, HK1, HO_6, HO_7, HB⟩ := hrel
        cases gk with
        | zero => exact absurd HA.out (by simp [grid_Clip.l0])
        | succ k1 =>
          have H := HA.out
          clear HA
          simp only [grid_Clip.l0] at H
          by_cases c8 : x26_1 < (l2.length : Int)
          · rw [if_pos c8] at H
            have c8b0 : decide (x26_1 < (l2.length : Int)) = true := decide_eq_true c8
            clear c8
            by_cases c9 : 0 ≤ x26_1
            · rw [if_pos c9] at H
              have c9b0 : decide (0 ≤ x26_1) = true := decide_eq_true c9
              clear c9
              by_cases c10 : x26_1 < (l2.length : Int)
              · rw [if_pos c10] at H
                have c10b0 : decide (x26_1 < (l2.length : Int)) = true := decide_eq_true c10
                clear c10
                by_cases c11 : x26_1 < (l0.length : Int)
                · rw [if_pos c11] at H
                  have c11b0 : decide (x26_1 < (l0.length : Int)) = true := decide_eq_true c11
                  clear c11
                  by_cases c12 : x26_1 < (l1.length : Int)
                  · rw [if_pos c12] at H
                    have c12b0 : decide (x26_1 < (l1.length : Int)) = true := decide_eq_true c12
                    clear c12
                    by_cases c13 : (rd l1 x26_1) = 0
                    · rw [if_pos c13] at H
                      exact absurd H (by simp)
                    · rw [if_neg c13] at H
                      have c13b0 : ((rd l1 x26_1) == 0) = false := beq_eq_false_iff_ne.mpr c13
                      have c13b1 : ((rd l1 x26_1) != 0) = true := bne_iff_ne.mpr c13
                      by_cases c14 : (rd l2 x26_1) ≤ (wrap64 (Int.tdiv (rd l0 x26_1) (rd l1 x26_1)))
                      · rw [if_pos c14] at H
                        have c14b0 : decide ((rd l2 x26_1) ≤ (wrap64 (Int.tdiv (rd l0 x26_1) (rd l1 x26_1)))) = true := decide_eq_true c14
                        clear c14
                        obtain ⟨ji15, hji15⟩ : ∃ j_ : Int, (mn (wrap64 ((rd l2 x26_1) * (rd l1 x26_1))) (rd l0 x26_1)) = j_ := ⟨_, rfl⟩
                        replace H : (if x6_1.length < 17592186044416 then (if x7_1.length < 17592186044416 then (grid_Clip.l0 k1 l0 l1 (x6_1 ++ [ji15]) (x7_1 ++ [mn (rd l1 x26_1) (wrap64 ((rd l0 x26_1) - (ji15)))]) l2 (l2.length : Int) (wrap64 (x26_1 + 1))) else (none)) else (none)) = some (r1, r2, r3) := by first | (rw [hji15] at H; exact H) | (simp only [hji15] at H ⊢; exact H)
                        have hji15_ : (if (rd l0 x26_1) < (wrap64 ((rd l2 x26_1) * (rd l1 x26_1))) then (rd l0 x26_1) else (wrap64 ((rd l2 x26_1) * (rd l1 x26_1)))) = ji15 := hji15
                        by_cases c16 : x6_1.length < 17592186044416
                        · rw [if_pos c16] at H
                          have LMc16 := Aside0.mk c16
                          clear c16
                          obtain ⟨y112, hy112⟩ : ∃ y_ : List Int, y_ = (x6_1 ++ [ji15]) := ⟨_, rfl⟩
                          replace H : (if x7_1.length < 17592186044416 then (grid_Clip.l0 k1 l0 l1 y112 (x7_1 ++ [mn (rd l1 x26_1) (wrap64 ((rd l0 x26_1) - (ji15)))]) l2 (l2.length : Int) (wrap64 (x26_1 + 1))) else (none)) = some (r1, r2, r3) := by first | (rw [hy112]; with_reducible exact H) | (have H2_ := (Option.bind_some _ _).symm.trans H; rw [hy112]; with_reducible exact H2_) | (have H2_ := (Option.bind_some _ _).symm.trans H; with_reducible exact H2_) | with_reducible exact H | (rw [hy112]; exact H) | exact H
                          have Ny112 := Aside0.mk hy112
                          clear hy112
                          obtain ⟨ji17, hji17⟩ : ∃ j_ : Int, (mn (rd l1 x26_1) (wrap64 ((rd l0 x26_1) - (ji15)))) = j_ := ⟨_, rfl⟩
                          replace H : (if x7_1.length < 17592186044416 then (grid_Clip.l0 k1 l0 l1 y112 (x7_1 ++ [ji17]) l2 (l2.length : Int) (wrap64 (x26_1 + 1))) else (none)) = some (r1, r2, r3) := by first | (rw [hji17] at H; exact H) | (simp only [hji17] at H ⊢; exact H)
                          have hji17_ : (if (wrap64 ((rd l0 x26_1) - (ji15))) < (rd l1 x26_1) then (wrap64 ((rd l0 x26_1) - (ji15))) else (rd l1 x26_1)) = ji17 := hji17
                          by_cases c18 : x7_1.length < 17592186044416
                          · rw [if_pos c18] at H
                            have LMc18 := Aside0.mk c18
                            clear c18
                            obtain ⟨y117, hy117⟩ : ∃ y_ : List Int, y_ = (x7_1 ++ [ji17]) := ⟨_, rfl⟩
                            replace H : (grid_Clip.l0 k1 l0 l1 y112 y117 l2 (l2.length : Int) (wrap64 (x26_1 + 1))) = some (r1, r2, r3) := by first | (rw [hy117]; with_reducible exact H) | (have H2_ := (Option.bind_some _ _).symm.trans H; rw [hy117]; with_reducible exact H2_) | (have H2_ := (Option.bind_some _ _).symm.trans H; with_reducible exact H2_) | with_reducible exact H | (rw [hy117]; exact H) | exact H
                            have Ny117 := Aside0.mk hy117
                            clear hy117
                            have H' := Aside0.mk H
                            clear H
                            have p107 : 0 ≤ (x26_1 : Int) := of_decide_eq_true (by first | (with_reducible assumption) | assumption)
                            have q107 : x26_1 < (l2.length : Int) := of_decide_eq_true (by first | (with_reducible assumption) | assumption)
                            obtain ⟨ad107, e107, hx107_0⟩ := Kd.at_int HR2.out x26_1 p107 q107
                            cases e107
                            replace hx107_0 := (HB.out.cell (World.block_lt_of_cell? w _ hx107_0)).trans hx107_0
                            replace p107 := eq_true p107
                            replace q107 := eq_true q107
                            have p108 : 0 ≤ (x26_1 : Int) := of_decide_eq_true (by first | (with_reducible assumption) | assumption)
                            have q108 : x26_1 < (l0.length : Int) := of_decide_eq_true (by first | (with_reducible assumption) | assumption)
                            obtain ⟨ad108, e108, hx108_0⟩ := Kd.at_int HR0.out x26_1 p108 q108
                            cases e108
                            replace hx108_0 := (HB.out.cell (World.block_lt_of_cell? w _ hx108_0)).trans hx108_0
                            replace p108 := eq_true p108
                            replace q108 := eq_true q108
                            try go_wp2
                            have n0_ := Aside0.mk (Kd.R_drew HO_6.out)
                            have n1_ := Aside0.mk (Kd.R_drew HO_7.out)
                            have n2_ := Aside0.mk (below_drew1 HB.out)
                            clear HO_6
                            clear HO_7
                            clear HB
                            have HO_6 := n0_
                            have HO_7 := n1_
                            have HB := n2_
                            clear n0_ n1_ n2_
                            have p109 : 0 ≤ (x26_1 : Int) := of_decide_eq_true (by first | (with_reducible assumption) | assumption)
                            have q109 : x26_1 < (l0.length : Int) := of_decide_eq_true (by first | (with_reducible assumption) | assumption)
                            obtain ⟨ad109, e109, hx109_0⟩ := Kd.at_int HR0.out x26_1 p109 q109
                            have hw109_0 := hx109_0
                            obtain rfl : ad108 = ad109 := (by injection e109)
                            replace hx109_0 := (HB.out.cell (World.block_lt_of_cell? w _ hx109_0)).trans hx109_0
                            replace p109 := eq_true p109
                            replace q109 := eq_true q109
                            have p110 : 0 ≤ (x26_1 : Int) := of_decide_eq_true (by first | (with_reducible assumption) | assumption)
                            have q110 : x26_1 < (l1.length : Int) := of_decide_eq_true (by first | (with_reducible assumption) | assumption)
                            obtain ⟨ad110, e110, hx110_0⟩ := Kd.at_int HR1.out x26_1 p110 q110
                            have hw110_0 := hx110_0
                            cases e110
                            replace hx110_0 := (HB.out.cell (World.block_lt_of_cell? w _ hx110_0)).trans hx110_0
                            replace p110 := eq_true p110
                            replace q110 := eq_true q110
                            refine start_ (n := 11) (S := fun w' => w'.cell? (ad108.add (x26_1).toNat) = some (.int .i64 (rd l0 x26_1)) ∧ w'.cell? (ad110.add (x26_1).toNat) = some (.int .i64 (rd l1 x26_1))) (ds := []) #[false, false, false, false, false, false, false, false, false, false, false] (by kernel_rfl) rfl rfl ⟨((HB.out.cell (World.block_lt_of_cell? w _ hw109_0)).trans hw109_0), ((HB.out.cell (World.block_lt_of_cell? w _ hw110_0)).trans hw110_0)⟩ (fun hHeld => ?_); refine with_tabW grid_Clip.tab10 grid_Clip.bits10 (fun HT_ HW_ => ?_)
                            generalize wr.drew = w19 at HO_6 HO_7 HB hx109_0 hx110_0 hHeld ⊢
                            refine pure_ (i := 0) (N := some 35) (v := ?_) (a' := ?_) #[true, false, false, false, false, false, false, false, false, false, false] rfl rfl (any_of HT_.out (by kernel_rfl)) (fun _ _ _ h => h) (Or.inl ⟨by rfl, ?_⟩) ?_ ?_
                            rotate_left
                            · intro w'
                              go_simp
                              with_reducible rfl
                            rotate_left
                            · simp only [Act.put, List.setIfInBounds_toArray, List.set_cons_zero, List.set_cons_succ, i64_w, i32_w]
                              rfl
                            refine pure_ (i := 1) (N := some 36) (v := ?_) (a' := ?_) #[true, true, false, false, false, false, false, false, false, false, false] rfl rfl (any_of HT_.out (by kernel_rfl)) (fun _ _ _ h => h) (Or.inl ⟨by rfl, ?_⟩) ?_ ?_
                            rotate_left
                            · intro w'
                              go_simp
                              with_reducible rfl
                            rotate_left
                            · simp only [Act.put, List.setIfInBounds_toArray, List.set_cons_zero, List.set_cons_succ, i64_w, i32_w]
                              rfl
                            refine pure_ (i := 2) (N := some 37) (v := ?_) (a' := ?_) #[true, true, true, false, false, false, false, false, false, false, false] rfl rfl (any_of HT_.out (by kernel_rfl)) (fun _ _ _ h => h) (Or.inl ⟨by rfl, ?_⟩) ?_ ?_
                            rotate_left
                            · intro w'
                              go_simp
                              with_reducible rfl
                            rotate_left
                            · simp only [Act.put, List.setIfInBounds_toArray, List.set_cons_zero, List.set_cons_succ, i64_w, i32_w]
                              rfl
                            refine pure_ (i := 3) (N := some 38) (v := ?_) (a' := ?_) #[true, true, true, true, false, false, false, false, false, false, false] rfl rfl (any_of HT_.out (by kernel_rfl)) (fun _ _ _ h => h) (Or.inl ⟨by rfl, ?_⟩) ?_ ?_
                            rotate_left
                            · intro w'
                              go_simp
                              with_reducible rfl
                            rotate_left
                            · simp only [Act.put, List.setIfInBounds_toArray, List.set_cons_zero, List.set_cons_succ, i64_w, i32_w]
                              rfl
                            refine pure_ (i := 5) (N := some 40) (v := ?_) (a' := ?_) #[true, true, true, true, false, true, false, false, false, false, false] rfl rfl (any_of HT_.out (by kernel_rfl)) (fun _ _ _ h => h) (Or.inl ⟨by rfl, ?_⟩) ?_ ?_
                            rotate_left
                            · intro w'
                              go_simp
                              with_reducible rfl
                            rotate_left
                            · simp only [Act.put, List.setIfInBounds_toArray, List.set_cons_zero, List.set_cons_succ, i64_w, i32_w]
                              rfl
                            refine pure_ (i := 6) (N := some 41) (v := ?_) (a' := ?_) #[true, true, true, true, false, true, true, false, false, false, false] rfl rfl (any_of HT_.out (by kernel_rfl)) (fun _ _ _ h => h) (Or.inl ⟨by rfl, ?_⟩) ?_ ?_
                            rotate_left
                            · intro w'
                              go_simp
                              with_reducible rfl
                            rotate_left
                            · simp only [Act.put, List.setIfInBounds_toArray, List.set_cons_zero, List.set_cons_succ, i64_w, i32_w]
                              rfl
                            refine pure_ (i := 7) (N := some 42) (v := ?_) (a' := ?_) #[true, true, true, true, false, true, true, true, false, false, false] rfl rfl (any_of HT_.out (by kernel_rfl)) (fun _ _ _ h => h) (Or.inl ⟨by rfl, ?_⟩) ?_ ?_
                            rotate_left
                            · intro w'
                              go_simp
                              with_reducible rfl
                            rotate_left
                            · simp only [Act.put, List.setIfInBounds_toArray, List.set_cons_zero, List.set_cons_succ, i64_w, i32_w]
                              rfl
                            refine take_ (i := 4) (N := some 39) (v := ?_) (a' := ?_) #[true, true, true, true, true, true, true, true, false, false, false] rfl rfl (take_ofW HT_.out HW_.out (by kernel_rfl)) (fun _ _ _ h => h) (Or.inl ⟨by rfl, ?_⟩) hHeld ?_ ?_
                            rotate_left
                            · rintro w' ⟨s0, s1⟩
                              go_simp
                              with_reducible rfl
                            rotate_left
                            · simp only [Act.put, List.setIfInBounds_toArray, List.set_cons_zero, List.set_cons_succ, i64_w, i32_w]
                              rfl
                            refine take_ (i := 8) (N := some 43) (v := ?_) (a' := ?_) #[true, true, true, true, true, true, true, true, true, false, false] rfl rfl (take_ofW HT_.out HW_.out (by kernel_rfl)) (fun _ _ _ h => h) (Or.inl ⟨by rfl, ?_⟩) hHeld ?_ ?_
                            rotate_left
                            · rintro w' ⟨s0, s1⟩
                              go_simp
                              with_reducible rfl
                            rotate_left
                            · simp only [Act.put, List.setIfInBounds_toArray, List.set_cons_zero, List.set_cons_succ, i64_w, i32_w]
                              rfl
                            refine pure_ (i := 9) (N := some 44) (v := ?_) (a' := ?_) #[true, true, true, true, true, true, true, true, true, true, false] rfl rfl (any_of HT_.out (by kernel_rfl)) (fun _ _ _ h => h) (Or.inl ⟨by rfl, ?_⟩) ?_ ?_
                            rotate_left
                            · intro w'
                              go_simp
                              with_reducible rfl
                            rotate_left
                            · simp only [Act.put, List.setIfInBounds_toArray, List.set_cons_zero, List.set_cons_succ, i64_w, i32_w]
                              rfl
                            refine pure_ (i := 10) (N := some 45) (v := ?_) (a' := ?_) #[true, true, true, true, true, true, true, true, true, true, true] rfl rfl (any_of HT_.out (by kernel_rfl)) (fun _ _ _ h => h) (Or.inl ⟨by rfl, ?_⟩) ?_ ?_
                            rotate_left
                            · intro w'
                              go_simp
                              with_reducible rfl
                            rotate_left
                            · simp only [Act.put, List.setIfInBounds_toArray, List.set_cons_zero, List.set_cons_succ, i64_w, i32_w]
                              rfl
                            refine done_ (done_of HT_.out (by kernel_rfl)) ?_
                            have p111 : 0 ≤ (x26_1 : Int) := of_decide_eq_true (by first | (with_reducible assumption) | assumption)
                            have q111 : x26_1 < (l1.length : Int) := of_decide_eq_true (by first | (with_reducible assumption) | assumption)
                            obtain ⟨ad111, e111, hx111_0⟩ := Kd.at_int HR1.out x26_1 p111 q111
                            obtain rfl : ad110 = ad111 := (by injection e111)
                            replace hx111_0 := (HB.out.cell (World.block_lt_of_cell? w _ hx111_0)).trans hx111_0
                            replace p111 := eq_true p111
                            replace q111 := eq_true q111
                            try go_wp2_with (first | ((with_reducible refine gate_builtin (b := .append) (xs := #[.tmp 54, .tmp 56]) rfl ?_); at_builtin; refine Kd.R_append (Kd.int .i64) (w0 := w) w.heap.size rfl (.tmp 54) (.tmp 56) 22 3 (.int .i64 0) 8 rfl Try.underlying22 info3 rfl (by decide) (by omega) u6 x6_1 ji15 [.int .i64 ji15] (fun k_ => some k_ ≠ (u7 : Value).ownBlock) (fun _ => False) rfl rfl ?aP (fun _ hk => hk.elim) ?aF ?aO ?aB ?aS ?aL ?_; (case aP => exact rfl); (case aB => exact (by repeat (first | (with_reducible first | exact HB.out | apply below_alloc | apply pw_below_drewN | apply below_drew1) | exact HB.out))); (case aF => exact (fun k_ hk => Kd.fresh' (Kd.R_lt (by (with_reducible repeat (first | apply Kd.R_alloc | apply Kd.R_drewN | apply Kd.R_drew)); exact HO_7.out)) k_ hk)); (case aO => exact (by (with_reducible repeat (first | apply Kd.R_alloc | apply Kd.R_drewN | apply Kd.R_drew)); exact HO_6.out)); (case aS => exact (below_size (by repeat (first | (with_reducible first | exact HB.out | apply below_alloc | apply pw_below_drewN | apply below_drew1) | exact HB.out)))); (case aL => have := LMc16.out; omega); intro v113 w20 ho hb hg hat; rw [← Ny112.out] at ho; have n0_ := Aside0.mk (Kd.R_after (ok := (fun _ => True)) (by (with_reducible repeat (first | apply Kd.R_alloc | apply Kd.R_drewN | apply Kd.R_drew)); exact Kd.R_mono HO_7.out (fun _ hk => ⟨trivial, hk⟩)) hg hat); have n1_ := Aside0.mk (hb); have n2_ := Aside0.mk (ho); clear HO_7; clear HB; clear HO_6; have HO_7 := n0_; have HB := n1_; have HO114 := n2_; clear n0_ n1_ n2_; clear ho hb hg hat))
                            have n0_ := Aside0.mk (Kd.R_drew HO_7.out)
                            have n1_ := Aside0.mk (Kd.R_drew HO114.out)
                            have n2_ := Aside0.mk (below_drew1 HB.out)
                            clear HO_7
                            clear HO114
                            clear HB
                            have HO_7 := n0_
                            have HO114 := n1_
                            have HB := n2_
                            clear n0_ n1_ n2_
                            have p115 : 0 ≤ (x26_1 : Int) := of_decide_eq_true (by first | (with_reducible assumption) | assumption)
                            have q115 : x26_1 < (l1.length : Int) := of_decide_eq_true (by first | (with_reducible assumption) | assumption)
                            obtain ⟨ad115, e115, hx115_0⟩ := Kd.at_int HR1.out x26_1 p115 q115
                            have hw115_0 := hx115_0
                            obtain rfl : ad110 = ad115 := (by injection e115)
                            replace hx115_0 := (HB.out.cell (World.block_lt_of_cell? w _ hx115_0)).trans hx115_0
                            replace p115 := eq_true p115
                            replace q115 := eq_true q115
                            have p116 : 0 ≤ (x26_1 : Int) := of_decide_eq_true (by first | (with_reducible assumption) | assumption)
                            have q116 : x26_1 < (l0.length : Int) := of_decide_eq_true (by first | (with_reducible assumption) | assumption)
                            obtain ⟨ad116, e116, hx116_0⟩ := Kd.at_int HR0.out x26_1 p116 q116
                            have hw116_0 := hx116_0
                            obtain rfl : ad108 = ad116 := (by injection e116)
                            replace hx116_0 := (HB.out.cell (World.block_lt_of_cell? w _ hx116_0)).trans hx116_0
                            replace p116 := eq_true p116
                            replace q116 := eq_true q116
                            refine start_ (n := 15) (S := fun w' => w'.cell? (ad110.add (x26_1).toNat) = some (.int .i64 (rd l1 x26_1)) ∧ w'.cell? (ad108.add (x26_1).toNat) = some (.int .i64 (rd l0 x26_1))) (ds := []) #[false, false, false, false, false, false, false, false, false, false, false, false, false, false, false] (by kernel_rfl) rfl rfl ⟨((HB.out.cell (World.block_lt_of_cell? w _ hw115_0)).trans hw115_0), ((HB.out.cell (World.block_lt_of_cell? w _ hw116_0)).trans hw116_0)⟩ (fun hHeld => ?_); refine with_tabW grid_Clip.tab13 grid_Clip.bits13 (fun HT_ HW_ => ?_)
                            generalize w20.drew = w21 at HO_7 HO114 HB hx115_0 hx116_0 hHeld ⊢
                            refine pure_ (i := 0) (N := some 58) (v := ?_) (a' := ?_) #[true, false, false, false, false, false, false, false, false, false, false, false, false, false, false] rfl rfl (any_of HT_.out (by kernel_rfl)) (fun _ _ _ h => h) (Or.inl ⟨by rfl, ?_⟩) ?_ ?_
                            rotate_left
                            · intro w'
                              go_simp
                              with_reducible rfl
                            rotate_left
                            · simp only [Act.put, List.setIfInBounds_toArray, List.set_cons_zero, List.set_cons_succ, i64_w, i32_w]
                              rfl
                            refine pure_ (i := 1) (N := some 59) (v := ?_) (a' := ?_) #[true, true, false, false, false, false, false, false, false, false, false, false, false, false, false] rfl rfl (any_of HT_.out (by kernel_rfl)) (fun _ _ _ h => h) (Or.inl ⟨by rfl, ?_⟩) ?_ ?_
                            rotate_left
                            · intro w'
                              go_simp
                              with_reducible rfl
                            rotate_left
                            · simp only [Act.put, List.setIfInBounds_toArray, List.set_cons_zero, List.set_cons_succ, i64_w, i32_w]
                              rfl
                            refine pure_ (i := 2) (N := some 60) (v := ?_) (a' := ?_) #[true, true, true, false, false, false, false, false, false, false, false, false, false, false, false] rfl rfl (any_of HT_.out (by kernel_rfl)) (fun _ _ _ h => h) (Or.inl ⟨by rfl, ?_⟩) ?_ ?_
                            rotate_left
                            · intro w'
                              go_simp
                              with_reducible rfl
                            rotate_left
                            · simp only [Act.put, List.setIfInBounds_toArray, List.set_cons_zero, List.set_cons_succ, i64_w, i32_w]
                              rfl
                            refine pure_ (i := 3) (N := some 61) (v := ?_) (a' := ?_) #[true, true, true, true, false, false, false, false, false, false, false, false, false, false, false] rfl rfl (any_of HT_.out (by kernel_rfl)) (fun _ _ _ h => h) (Or.inl ⟨by rfl, ?_⟩) ?_ ?_
                            rotate_left
                            · intro w'
                              go_simp
                              with_reducible rfl
                            rotate_left
                            · simp only [Act.put, List.setIfInBounds_toArray, List.set_cons_zero, List.set_cons_succ, i64_w, i32_w]
                              rfl
                            refine pure_ (i := 5) (N := some 63) (v := ?_) (a' := ?_) #[true, true, true, true, false, true, false, false, false, false, false, false, false, false, false] rfl rfl (any_of HT_.out (by kernel_rfl)) (fun _ _ _ h => h) (Or.inl ⟨by rfl, ?_⟩) ?_ ?_
                            rotate_left
                            · intro w'
                              go_simp
                              with_reducible rfl
                            rotate_left
                            · simp only [Act.put, List.setIfInBounds_toArray, List.set_cons_zero, List.set_cons_succ, i64_w, i32_w]
                              rfl
                            refine pure_ (i := 6) (N := some 64) (v := ?_) (a' := ?_) #[true, true, true, true, false, true, true, false, false, false, false, false, false, false, false] rfl rfl (any_of HT_.out (by kernel_rfl)) (fun _ _ _ h => h) (Or.inl ⟨by rfl, ?_⟩) ?_ ?_
                            rotate_left
                            · intro w'
                              go_simp
                              with_reducible rfl
                            rotate_left
                            · simp only [Act.put, List.setIfInBounds_toArray, List.set_cons_zero, List.set_cons_succ, i64_w, i32_w]
                              rfl
                            refine pure_ (i := 7) (N := some 65) (v := ?_) (a' := ?_) #[true, true, true, true, false, true, true, true, false, false, false, false, false, false, false] rfl rfl (any_of HT_.out (by kernel_rfl)) (fun _ _ _ h => h) (Or.inl ⟨by rfl, ?_⟩) ?_ ?_
                            rotate_left
                            · intro w'
                              go_simp
                              with_reducible rfl
                            rotate_left
                            · simp only [Act.put, List.setIfInBounds_toArray, List.set_cons_zero, List.set_cons_succ, i64_w, i32_w]
                              rfl
                            refine pure_ (i := 9) (N := some 67) (v := ?_) (a' := ?_) #[true, true, true, true, false, true, true, true, false, true, false, false, false, false, false] rfl rfl (any_of HT_.out (by kernel_rfl)) (fun _ _ _ h => h) (Or.inl ⟨by rfl, ?_⟩) ?_ ?_
                            rotate_left
                            · intro w'
                              go_simp
                              with_reducible rfl
                            rotate_left
                            · simp only [Act.put, List.setIfInBounds_toArray, List.set_cons_zero, List.set_cons_succ, i64_w, i32_w]
                              rfl
                            refine take_ (i := 4) (N := some 62) (v := ?_) (a' := ?_) #[true, true, true, true, true, true, true, true, false, true, false, false, false, false, false] rfl rfl (take_ofW HT_.out HW_.out (by kernel_rfl)) (fun _ _ _ h => h) (Or.inl ⟨by rfl, ?_⟩) hHeld ?_ ?_
                            rotate_left
                            · rintro w' ⟨s0, s1⟩
                              go_simp
                              with_reducible rfl
                            rotate_left
                            · simp only [Act.put, List.setIfInBounds_toArray, List.set_cons_zero, List.set_cons_succ, i64_w, i32_w]
                              rfl
                            refine take_ (i := 8) (N := some 66) (v := ?_) (a' := ?_) #[true, true, true, true, true, true, true, true, true, true, false, false, false, false, false] rfl rfl (take_ofW HT_.out HW_.out (by kernel_rfl)) (fun _ _ _ h => h) (Or.inl ⟨by rfl, ?_⟩) hHeld ?_ ?_
                            rotate_left
                            · rintro w' ⟨s0, s1⟩
                              go_simp
                              with_reducible rfl
                            rotate_left
                            · simp only [Act.put, List.setIfInBounds_toArray, List.set_cons_zero, List.set_cons_succ, i64_w, i32_w]
                              rfl
                            refine pure_ (i := 10) (N := some 68) (v := ?_) (a' := ?_) #[true, true, true, true, true, true, true, true, true, true, true, false, false, false, false] rfl rfl (any_of HT_.out (by kernel_rfl)) (fun _ _ _ h => h) (Or.inl ⟨by rfl, ?_⟩) ?_ ?_
                            rotate_left
                            · intro w'
                              go_simp
                              with_reducible rfl
                            rotate_left
                            · simp only [Act.put, List.setIfInBounds_toArray, List.set_cons_zero, List.set_cons_succ, i64_w, i32_w]
                              rfl
                            refine pure_ (i := 11) (N := some 69) (v := ?_) (a' := ?_) #[true, true, true, true, true, true, true, true, true, true, true, true, false, false, false] rfl rfl (any_of HT_.out (by kernel_rfl)) (fun _ _ _ h => h) (Or.inl ⟨by rfl, ?_⟩) ?_ ?_
                            rotate_left
                            · intro w'
                              go_simp
                              with_reducible rfl
                            rotate_left
                            · simp only [Act.put, List.setIfInBounds_toArray, List.set_cons_zero, List.set_cons_succ, i64_w, i32_w]
                              rfl
                            refine one_ (i := 12) (N := some 70) #[true, true, true, true, true, true, true, true, true, true, true, true, true, false, false] rfl rfl (one_of HT_.out (by kernel_rfl)) (by decide) (fun K hK => ?_)
                            refine value_ (w1 := ?_) (v := ?_) (by rfl) rfl ?_ ?_
                            rotate_left 2
                            · go_simp
                              constructor
                              · rfl
                              · rfl
                            refine hK.out _ _ ⟨(World.cell?_alloc_lt _ _ _ (World.block_lt_of_cell? _ _ (((HB.out.cell (World.block_lt_of_cell? w _ hw115_0)).trans hw115_0)))).trans (((HB.out.cell (World.block_lt_of_cell? w _ hw115_0)).trans hw115_0)), (World.cell?_alloc_lt _ _ _ (World.block_lt_of_cell? _ _ (((HB.out.cell (World.block_lt_of_cell? w _ hw116_0)).trans hw116_0)))).trans (((HB.out.cell (World.block_lt_of_cell? w _ hw116_0)).trans hw116_0))⟩ (fun hHeld => ?_)
                            clear hK K
                            refine norm_ (a' := ?_) ?_ ?_
                            rotate_left
                            · show Act.put _ (some 70) _ = _
                              simp only [Act.put, List.setIfInBounds_toArray, List.set_cons_zero, List.set_cons_succ, i64_w, i32_w]
                              rfl
                            refine one_ (i := 13) (N := some 71) #[true, true, true, true, true, true, true, true, true, true, true, true, true, true, false] rfl rfl (one_of HT_.out (by kernel_rfl)) (by decide) (fun K hK => ?_)
                            refine Kd.R_append_step (Kd.int .i64) (w0 := w) w.heap.size (by rfl) (.tmp 58) (.tmp 70) 22 3 (.int .i64 0) 8 rfl Try.underlying22 info3 rfl (by decide) (by omega) u7 x7_1 ji17 [.int .i64 ji17] (fun k_ => some k_ ≠ (v113 : Value).ownBlock) (fun _ => False) rfl rfl ?aP (fun _ hk => hk.elim) ?aF ?aO ?aB ?aS ?aL ?_
                            (case aP => exact rfl)
                            (case aB => exact (by repeat (first | (with_reducible first | exact HB.out | apply below_alloc | apply pw_below_drewN | apply below_drew1) | exact HB.out)))
                            (case aF => exact (fun k_ hk => Kd.fresh' (Kd.R_lt (by (with_reducible repeat (first | apply Kd.R_alloc | apply Kd.R_drewN | apply Kd.R_drew)); exact HO114.out)) k_ hk))
                            (case aO => exact (by (with_reducible repeat (first | apply Kd.R_alloc | apply Kd.R_drewN | apply Kd.R_drew)); exact Kd.R_mono HO_7.out (fun _ hk => hk.2)))
                            (case aS => exact (below_size (by repeat (first | (with_reducible first | exact HB.out | apply below_alloc | apply pw_below_drewN | apply below_drew1) | exact HB.out))))
                            (case aL => have := LMc18.out; omega)
                            intro v118 w22 ho hb hg hat
                            rw [← Ny117.out] at ho
                            have n0_ := Aside0.mk (Kd.R_after (ok := (fun _ => True)) (by (with_reducible repeat (first | apply Kd.R_alloc | apply Kd.R_drewN | apply Kd.R_drew)); exact Kd.R_mono HO114.out (fun _ hk => ⟨trivial, hk⟩)) hg hat)
                            have n1_ := Aside0.mk (hb)
                            have n2_ := Aside0.mk (ho)
                            clear HO114
                            clear HB
                            clear HO_7
                            have HO114 := n0_
                            have HB := n1_
                            have HO119 := n2_
                            clear n0_ n1_ n2_
                            clear ho hb hg hat
                            refine hK.out _ _ ⟨((HB.out.cell (World.block_lt_of_cell? w _ hw115_0)).trans hw115_0), ((HB.out.cell (World.block_lt_of_cell? w _ hw116_0)).trans hw116_0)⟩ (fun hHeld => ?_)
                            clear hK K
                            refine norm_ (a' := ?_) ?_ ?_
                            rotate_left
                            · show Act.put _ (some 71) _ = _
                              simp only [Act.put, List.setIfInBounds_toArray, List.set_cons_zero, List.set_cons_succ, i64_w, i32_w]
                              rfl
                            refine pure_ (i := 14) (N := some 7) (v := ?_) (a' := ?_) #[true, true, true, true, true, true, true, true, true, true, true, true, true, true, true] rfl rfl (any_of HT_.out (by kernel_rfl)) (fun _ _ _ h => h) (Or.inl ⟨by rfl, ?_⟩) ?_ ?_
                            rotate_left
                            · intro w'
                              go_simp
                              with_reducible rfl
                            rotate_left
                            · simp only [Act.put, List.setIfInBounds_toArray, List.set_cons_zero, List.set_cons_succ, i64_w, i32_w]
                              rfl
                            refine done_ (done_of HT_.out (by kernel_rfl)) ?_
                            try go_wp2
                            go_roundg k1
                            case measure => have := HK1.out; omega
                            case rel => exact ⟨(y112), (y117), (wrap64 (x26_1 + 1)), (by first | rfl | (simp; done) | (simp [*]; done)), H', ⟨by have := HK1.out; omega⟩, ⟨by (with_reducible repeat (first | apply Kd.R_alloc | apply Kd.R_drewN | apply Kd.R_drew)); exact Kd.R_mono HO114.out (fun _ hk => hk.2)⟩, ⟨by (with_reducible repeat (first | apply Kd.R_alloc | apply Kd.R_drewN | apply Kd.R_drew)); exact HO119.out⟩, ⟨by repeat (first | (with_reducible first | exact HB.out | apply below_alloc | apply pw_below_drewN | apply below_drew1) | exact HB.out)⟩⟩
                          · rw [if_neg c18] at H
                            exact absurd H (by simp)
                        · rw [if_neg c16] at H
                          exact absurd H (by simp)
                      · rw [if_neg c14] at H
                        have c14b0 : decide ((rd l2 x26_1) ≤ (wrap64 (Int.tdiv (rd l0 x26_1) (rd l1 x26_1)))) = false := decide_eq_false c14
                        clear c14
                        by_cases c23 : x6_1.length < 17592186044416
                        · rw [if_pos c23] at H
                          have LMc23 := Aside0.mk c23
                          clear c23
                          obtain ⟨y120, hy120⟩ : ∃ y_ : List Int, y_ = (x6_1 ++ [rd l0 x26_1]) := ⟨_, rfl⟩
                          replace H : (if x7_1.length < 17592186044416 then (grid_Clip.l0 k1 l0 l1 y120 (x7_1 ++ [mn (rd l1 x26_1) (wrap64 ((rd l0 x26_1) - (rd l0 x26_1)))]) l2 (l2.length : Int) (wrap64 (x26_1 + 1))) else (none)) = some (r1, r2, r3) := by first | (rw [hy120]; with_reducible exact H) | (have H2_ := (Option.bind_some _ _).symm.trans H; rw [hy120]; with_reducible exact H2_) | (have H2_ := (Option.bind_some _ _).symm.trans H; with_reducible exact H2_) | with_reducible exact H | (rw [hy120]; exact H) | exact H
                          have Ny120 := Aside0.mk hy120
                          clear hy120
                          obtain ⟨ji24, hji24⟩ : ∃ j_ : Int, (mn (rd l1 x26_1) (wrap64 ((rd l0 x26_1) - (rd l0 x26_1)))) = j_ := ⟨_, rfl⟩
                          replace H : (if x7_1.length < 17592186044416 then (grid_Clip.l0 k1 l0 l1 y120 (x7_1 ++ [ji24]) l2 (l2.length : Int) (wrap64 (x26_1 + 1))) else (none)) = some (r1, r2, r3) := by first | (rw [hji24] at H; exact H) | (simp only [hji24] at H ⊢; exact H)
                          have hji24_ : (if (wrap64 ((rd l0 x26_1) - (rd l0 x26_1))) < (rd l1 x26_1) then (wrap64 ((rd l0 x26_1) - (rd l0 x26_1))) else (rd l1 x26_1)) = ji24 := hji24
                          have hji24z : (if wrap64 0 < rd l1 x26_1 then wrap64 0 else rd l1 x26_1) = ji24 := by have h_ := hji24_; rw [Int.sub_self] at h_; exact h_
                          by_cases c25 : x7_1.length < 17592186044416
                          · rw [if_pos c25] at H
                            have LMc25 := Aside0.mk c25
                            clear c25
                            obtain ⟨y125, hy125⟩ : ∃ y_ : List Int, y_ = (x7_1 ++ [ji24]) := ⟨_, rfl⟩
                            replace H : (grid_Clip.l0 k1 l0 l1 y120 y125 l2 (l2.length : Int) (wrap64 (x26_1 + 1))) = some (r1, r2, r3) := by first | (rw [hy125]; with_reducible exact H) | (have H2_ := (Option.bind_some _ _).symm.trans H; rw [hy125]; with_reducible exact H2_) | (have H2_ := (Option.bind_some _ _).symm.trans H; with_reducible exact H2_) | with_reducible exact H | (rw [hy125]; exact H) | exact H
                            have Ny125 := Aside0.mk hy125
                            clear hy125
                            have H' := Aside0.mk H
                            clear H
                            have p107 : 0 ≤ (x26_1 : Int) := of_decide_eq_true (by first | (with_reducible assumption) | assumption)
                            have q107 : x26_1 < (l2.length : Int) := of_decide_eq_true (by first | (with_reducible assumption) | assumption)
                            obtain ⟨ad107, e107, hx107_0⟩ := Kd.at_int HR2.out x26_1 p107 q107
                            cases e107
                            replace hx107_0 := (HB.out.cell (World.block_lt_of_cell? w _ hx107_0)).trans hx107_0
                            replace p107 := eq_true p107
                            replace q107 := eq_true q107
                            have p108 : 0 ≤ (x26_1 : Int) := of_decide_eq_true (by first | (with_reducible assumption) | assumption)
                            have q108 : x26_1 < (l0.length : Int) := of_decide_eq_true (by first | (with_reducible assumption) | assumption)
                            obtain ⟨ad108, e108, hx108_0⟩ := Kd.at_int HR0.out x26_1 p108 q108
                            cases e108
                            replace hx108_0 := (HB.out.cell (World.block_lt_of_cell? w _ hx108_0)).trans hx108_0
                            replace p108 := eq_true p108
                            replace q108 := eq_true q108
                            try go_wp2
                            have n0_ := Aside0.mk (Kd.R_drew HO_6.out)
                            have n1_ := Aside0.mk (Kd.R_drew HO_7.out)
                            have n2_ := Aside0.mk (below_drew1 HB.out)
                            clear HO_6
                            clear HO_7
                            clear HB
                            have HO_6 := n0_
                            have HO_7 := n1_
                            have HB := n2_
                            clear n0_ n1_ n2_
                            have p109 : 0 ≤ (x26_1 : Int) := of_decide_eq_true (by first | (with_reducible assumption) | assumption)
                            have q109 : x26_1 < (l0.length : Int) := of_decide_eq_true (by first | (with_reducible assumption) | assumption)
                            obtain ⟨ad109, e109, hx109_0⟩ := Kd.at_int HR0.out x26_1 p109 q109
                            have hw109_0 := hx109_0
                            obtain rfl : ad108 = ad109 := (by injection e109)
                            replace hx109_0 := (HB.out.cell (World.block_lt_of_cell? w _ hx109_0)).trans hx109_0
                            replace p109 := eq_true p109
                            replace q109 := eq_true q109
                            have p110 : 0 ≤ (x26_1 : Int) := of_decide_eq_true (by first | (with_reducible assumption) | assumption)
                            have q110 : x26_1 < (l1.length : Int) := of_decide_eq_true (by first | (with_reducible assumption) | assumption)
                            obtain ⟨ad110, e110, hx110_0⟩ := Kd.at_int HR1.out x26_1 p110 q110
                            have hw110_0 := hx110_0
                            cases e110
                            replace hx110_0 := (HB.out.cell (World.block_lt_of_cell? w _ hx110_0)).trans hx110_0
                            replace p110 := eq_true p110
                            replace q110 := eq_true q110
                            refine start_ (n := 11) (S := fun w' => w'.cell? (ad108.add (x26_1).toNat) = some (.int .i64 (rd l0 x26_1)) ∧ w'.cell? (ad110.add (x26_1).toNat) = some (.int .i64 (rd l1 x26_1))) (ds := []) #[false, false, false, false, false, false, false, false, false, false, false] (by kernel_rfl) rfl rfl ⟨((HB.out.cell (World.block_lt_of_cell? w _ hw109_0)).trans hw109_0), ((HB.out.cell (World.block_lt_of_cell? w _ hw110_0)).trans hw110_0)⟩ (fun hHeld => ?_); refine with_tabW grid_Clip.tab10 grid_Clip.bits10 (fun HT_ HW_ => ?_)
                            generalize wr.drew = w26 at HO_6 HO_7 HB hx109_0 hx110_0 hHeld ⊢
                            refine pure_ (i := 0) (N := some 35) (v := ?_) (a' := ?_) #[true, false, false, false, false, false, false, false, false, false, false] rfl rfl (any_of HT_.out (by kernel_rfl)) (fun _ _ _ h => h) (Or.inl ⟨by rfl, ?_⟩) ?_ ?_
                            rotate_left
                            · intro w'
                              go_simp
                              with_reducible rfl
                            rotate_left
                            · simp only [Act.put, List.setIfInBounds_toArray, List.set_cons_zero, List.set_cons_succ, i64_w, i32_w]
                              rfl
                            refine pure_ (i := 1) (N := some 36) (v := ?_) (a' := ?_) #[true, true, false, false, false, false, false, false, false, false, false] rfl rfl (any_of HT_.out (by kernel_rfl)) (fun _ _ _ h => h) (Or.inl ⟨by rfl, ?_⟩) ?_ ?_
                            rotate_left
                            · intro w'
                              go_simp
                              with_reducible rfl
                            rotate_left
                            · simp only [Act.put, List.setIfInBounds_toArray, List.set_cons_zero, List.set_cons_succ, i64_w, i32_w]
                              rfl
                            refine pure_ (i := 2) (N := some 37) (v := ?_) (a' := ?_) #[true, true, true, false, false, false, false, false, false, false, false] rfl rfl (any_of HT_.out (by kernel_rfl)) (fun _ _ _ h => h) (Or.inl ⟨by rfl, ?_⟩) ?_ ?_
                            rotate_left
                            · intro w'
                              go_simp
                              with_reducible rfl
                            rotate_left
                            · simp only [Act.put, List.setIfInBounds_toArray, List.set_cons_zero, List.set_cons_succ, i64_w, i32_w]
                              rfl
                            refine pure_ (i := 3) (N := some 38) (v := ?_) (a' := ?_) #[true, true, true, true, false, false, false, false, false, false, false] rfl rfl (any_of HT_.out (by kernel_rfl)) (fun _ _ _ h => h) (Or.inl ⟨by rfl, ?_⟩) ?_ ?_
                            rotate_left
                            · intro w'
                              go_simp
                              with_reducible rfl
                            rotate_left
                            · simp only [Act.put, List.setIfInBounds_toArray, List.set_cons_zero, List.set_cons_succ, i64_w, i32_w]
                              rfl
                            refine pure_ (i := 5) (N := some 40) (v := ?_) (a' := ?_) #[true, true, true, true, false, true, false, false, false, false, false] rfl rfl (any_of HT_.out (by kernel_rfl)) (fun _ _ _ h => h) (Or.inl ⟨by rfl, ?_⟩) ?_ ?_
                            rotate_left
                            · intro w'
                              go_simp
                              with_reducible rfl
                            rotate_left
                            · simp only [Act.put, List.setIfInBounds_toArray, List.set_cons_zero, List.set_cons_succ, i64_w, i32_w]
                              rfl
                            refine pure_ (i := 6) (N := some 41) (v := ?_) (a' := ?_) #[true, true, true, true, false, true, true, false, false, false, false] rfl rfl (any_of HT_.out (by kernel_rfl)) (fun _ _ _ h => h) (Or.inl ⟨by rfl, ?_⟩) ?_ ?_
                            rotate_left
                            · intro w'
                              go_simp
                              with_reducible rfl
                            rotate_left
                            · simp only [Act.put, List.setIfInBounds_toArray, List.set_cons_zero, List.set_cons_succ, i64_w, i32_w]
                              rfl
                            refine pure_ (i := 7) (N := some 42) (v := ?_) (a' := ?_) #[true, true, true, true, false, true, true, true, false, false, false] rfl rfl (any_of HT_.out (by kernel_rfl)) (fun _ _ _ h => h) (Or.inl ⟨by rfl, ?_⟩) ?_ ?_
                            rotate_left
                            · intro w'
                              go_simp
                              with_reducible rfl
                            rotate_left
                            · simp only [Act.put, List.setIfInBounds_toArray, List.set_cons_zero, List.set_cons_succ, i64_w, i32_w]
                              rfl
                            refine take_ (i := 4) (N := some 39) (v := ?_) (a' := ?_) #[true, true, true, true, true, true, true, true, false, false, false] rfl rfl (take_ofW HT_.out HW_.out (by kernel_rfl)) (fun _ _ _ h => h) (Or.inl ⟨by rfl, ?_⟩) hHeld ?_ ?_
                            rotate_left
                            · rintro w' ⟨s0, s1⟩
                              go_simp
                              with_reducible rfl
                            rotate_left
                            · simp only [Act.put, List.setIfInBounds_toArray, List.set_cons_zero, List.set_cons_succ, i64_w, i32_w]
                              rfl
                            refine take_ (i := 8) (N := some 43) (v := ?_) (a' := ?_) #[true, true, true, true, true, true, true, true, true, false, false] rfl rfl (take_ofW HT_.out HW_.out (by kernel_rfl)) (fun _ _ _ h => h) (Or.inl ⟨by rfl, ?_⟩) hHeld ?_ ?_
                            rotate_left
                            · rintro w' ⟨s0, s1⟩
                              go_simp
                              with_reducible rfl
                            rotate_left
                            · simp only [Act.put, List.setIfInBounds_toArray, List.set_cons_zero, List.set_cons_succ, i64_w, i32_w]
                              rfl
                            refine pure_ (i := 9) (N := some 44) (v := ?_) (a' := ?_) #[true, true, true, true, true, true, true, true, true, true, false] rfl rfl (any_of HT_.out (by kernel_rfl)) (fun _ _ _ h => h) (Or.inl ⟨by rfl, ?_⟩) ?_ ?_
                            rotate_left
                            · intro w'
                              go_simp
                              with_reducible rfl
                            rotate_left
                            · simp only [Act.put, List.setIfInBounds_toArray, List.set_cons_zero, List.set_cons_succ, i64_w, i32_w]
                              rfl
                            refine pure_ (i := 10) (N := some 45) (v := ?_) (a' := ?_) #[true, true, true, true, true, true, true, true, true, true, true] rfl rfl (any_of HT_.out (by kernel_rfl)) (fun _ _ _ h => h) (Or.inl ⟨by rfl, ?_⟩) ?_ ?_
                            rotate_left
                            · intro w'
                              go_simp
                              with_reducible rfl
                            rotate_left
                            · simp only [Act.put, List.setIfInBounds_toArray, List.set_cons_zero, List.set_cons_succ, i64_w, i32_w]
                              rfl
                            refine done_ (done_of HT_.out (by kernel_rfl)) ?_
                            try go_wp2_with (first | ((with_reducible refine gate_builtin (b := .append) (xs := #[.tmp 54, .tmp 56]) rfl ?_); at_builtin; refine Kd.R_append (Kd.int .i64) (w0 := w) w.heap.size rfl (.tmp 54) (.tmp 56) 22 3 (.int .i64 0) 8 rfl Try.underlying22 info3 rfl (by decide) (by omega) u6 x6_1 (rd l0 x26_1) [.int .i64 (rd l0 x26_1)] (fun k_ => some k_ ≠ (u7 : Value).ownBlock) (fun _ => False) rfl rfl ?aP (fun _ hk => hk.elim) ?aF ?aO ?aB ?aS ?aL ?_; (case aP => exact rfl); (case aB => exact (by repeat (first | (with_reducible first | exact HB.out | apply below_alloc | apply pw_below_drewN | apply below_drew1) | exact HB.out))); (case aF => exact (fun k_ hk => Kd.fresh' (Kd.R_lt (by (with_reducible repeat (first | apply Kd.R_alloc | apply Kd.R_drewN | apply Kd.R_drew)); exact HO_7.out)) k_ hk)); (case aO => exact (by (with_reducible repeat (first | apply Kd.R_alloc | apply Kd.R_drewN | apply Kd.R_drew)); exact HO_6.out)); (case aS => exact (below_size (by repeat (first | (with_reducible first | exact HB.out | apply below_alloc | apply pw_below_drewN | apply below_drew1) | exact HB.out)))); (case aL => have := LMc23.out; omega); intro v121 w27 ho hb hg hat; rw [← Ny120.out] at ho; have n0_ := Aside0.mk (Kd.R_after (ok := (fun _ => True)) (by (with_reducible repeat (first | apply Kd.R_alloc | apply Kd.R_drewN | apply Kd.R_drew)); exact Kd.R_mono HO_7.out (fun _ hk => ⟨trivial, hk⟩)) hg hat); have n1_ := Aside0.mk (hb); have n2_ := Aside0.mk (ho); clear HO_7; clear HB; clear HO_6; have HO_7 := n0_; have HB := n1_; have HO122 := n2_; clear n0_ n1_ n2_; clear ho hb hg hat))
                            have n0_ := Aside0.mk (Kd.R_drew HO_7.out)
                            have n1_ := Aside0.mk (Kd.R_drew HO122.out)
                            have n2_ := Aside0.mk (below_drew1 HB.out)
                            clear HO_7
                            clear HO122
                            clear HB
                            have HO_7 := n0_
                            have HO122 := n1_
                            have HB := n2_
                            clear n0_ n1_ n2_
                            have p123 : 0 ≤ (x26_1 : Int) := of_decide_eq_true (by first | (with_reducible assumption) | assumption)
                            have q123 : x26_1 < (l1.length : Int) := of_decide_eq_true (by first | (with_reducible assumption) | assumption)
                            obtain ⟨ad123, e123, hx123_0⟩ := Kd.at_int HR1.out x26_1 p123 q123
                            have hw123_0 := hx123_0
                            obtain rfl : ad110 = ad123 := (by injection e123)
                            replace hx123_0 := (HB.out.cell (World.block_lt_of_cell? w _ hx123_0)).trans hx123_0
                            replace p123 := eq_true p123
                            replace q123 := eq_true q123
                            have p124 : 0 ≤ (x26_1 : Int) := of_decide_eq_true (by first | (with_reducible assumption) | assumption)
                            have q124 : x26_1 < (l0.length : Int) := of_decide_eq_true (by first | (with_reducible assumption) | assumption)
                            obtain ⟨ad124, e124, hx124_0⟩ := Kd.at_int HR0.out x26_1 p124 q124
                            have hw124_0 := hx124_0
                            obtain rfl : ad108 = ad124 := (by injection e124)
                            replace hx124_0 := (HB.out.cell (World.block_lt_of_cell? w _ hx124_0)).trans hx124_0
                            replace p124 := eq_true p124
                            replace q124 := eq_true q124
                            refine start_ (n := 15) (S := fun w' => w'.cell? (ad110.add (x26_1).toNat) = some (.int .i64 (rd l1 x26_1)) ∧ w'.cell? (ad108.add (x26_1).toNat) = some (.int .i64 (rd l0 x26_1))) (ds := []) #[false, false, false, false, false, false, false, false, false, false, false, false, false, false, false] (by kernel_rfl) rfl rfl ⟨((HB.out.cell (World.block_lt_of_cell? w _ hw123_0)).trans hw123_0), ((HB.out.cell (World.block_lt_of_cell? w _ hw124_0)).trans hw124_0)⟩ (fun hHeld => ?_); refine with_tabW grid_Clip.tab13 grid_Clip.bits13 (fun HT_ HW_ => ?_)
                            generalize w27.drew = w28 at HO_7 HO122 HB hx123_0 hx124_0 hHeld ⊢
                            refine pure_ (i := 0) (N := some 58) (v := ?_) (a' := ?_) #[true, false, false, false, false, false, false, false, false, false, false, false, false, false, false] rfl rfl (any_of HT_.out (by kernel_rfl)) (fun _ _ _ h => h) (Or.inl ⟨by rfl, ?_⟩) ?_ ?_
                            rotate_left
                            · intro w'
                              go_simp
                              with_reducible rfl
                            rotate_left
                            · simp only [Act.put, List.setIfInBounds_toArray, List.set_cons_zero, List.set_cons_succ, i64_w, i32_w]
                              rfl
                            refine pure_ (i := 1) (N := some 59) (v := ?_) (a' := ?_) #[true, true, false, false, false, false, false, false, false, false, false, false, false, false, false] rfl rfl (any_of HT_.out (by kernel_rfl)) (fun _ _ _ h => h) (Or.inl ⟨by rfl, ?_⟩) ?_ ?_
                            rotate_left
                            · intro w'
                              go_simp
                              with_reducible rfl
                            rotate_left
                            · simp only [Act.put, List.setIfInBounds_toArray, List.set_cons_zero, List.set_cons_succ, i64_w, i32_w]
                              rfl
                            refine pure_ (i := 2) (N := some 60) (v := ?_) (a' := ?_) #[true, true, true, false, false, false, false, false, false, false, false, false, false, false, false] rfl rfl (any_of HT_.out (by kernel_rfl)) (fun _ _ _ h => h) (Or.inl ⟨by rfl, ?_⟩) ?_ ?_
                            rotate_left
                            · intro w'
                              go_simp
                              with_reducible rfl
                            rotate_left
                            · simp only [Act.put, List.setIfInBounds_toArray, List.set_cons_zero, List.set_cons_succ, i64_w, i32_w]
                              rfl
                            refine pure_ (i := 3) (N := some 61) (v := ?_) (a' := ?_) #[true, true, true, true, false, false, false, false, false, false, false, false, false, false, false] rfl rfl (any_of HT_.out (by kernel_rfl)) (fun _ _ _ h => h) (Or.inl ⟨by rfl, ?_⟩) ?_ ?_
                            rotate_left
                            · intro w'
                              go_simp
                              with_reducible rfl
                            rotate_left
                            · simp only [Act.put, List.setIfInBounds_toArray, List.set_cons_zero, List.set_cons_succ, i64_w, i32_w]
                              rfl
                            refine pure_ (i := 5) (N := some 63) (v := ?_) (a' := ?_) #[true, true, true, true, false, true, false, false, false, false, false, false, false, false, false] rfl rfl (any_of HT_.out (by kernel_rfl)) (fun _ _ _ h => h) (Or.inl ⟨by rfl, ?_⟩) ?_ ?_
                            rotate_left
                            · intro w'
                              go_simp
                              with_reducible rfl
                            rotate_left
                            · simp only [Act.put, List.setIfInBounds_toArray, List.set_cons_zero, List.set_cons_succ, i64_w, i32_w]
                              rfl
                            refine pure_ (i := 6) (N := some 64) (v := ?_) (a' := ?_) #[true, true, true, true, false, true, true, false, false, false, false, false, false, false, false] rfl rfl (any_of HT_.out (by kernel_rfl)) (fun _ _ _ h => h) (Or.inl ⟨by rfl, ?_⟩) ?_ ?_
                            rotate_left
                            · intro w'
                              go_simp
                              with_reducible rfl
                            rotate_left
                            · simp only [Act.put, List.setIfInBounds_toArray, List.set_cons_zero, List.set_cons_succ, i64_w, i32_w]
                              rfl
                            refine pure_ (i := 7) (N := some 65) (v := ?_) (a' := ?_) #[true, true, true, true, false, true, true, true, false, false, false, false, false, false, false] rfl rfl (any_of HT_.out (by kernel_rfl)) (fun _ _ _ h => h) (Or.inl ⟨by rfl, ?_⟩) ?_ ?_
                            rotate_left
                            · intro w'
                              go_simp
                              with_reducible rfl
                            rotate_left
                            · simp only [Act.put, List.setIfInBounds_toArray, List.set_cons_zero, List.set_cons_succ, i64_w, i32_w]
                              rfl
                            refine pure_ (i := 9) (N := some 67) (v := ?_) (a' := ?_) #[true, true, true, true, false, true, true, true, false, true, false, false, false, false, false] rfl rfl (any_of HT_.out (by kernel_rfl)) (fun _ _ _ h => h) (Or.inl ⟨by rfl, ?_⟩) ?_ ?_
                            rotate_left
                            · intro w'
                              go_simp
                              with_reducible rfl
                            rotate_left
                            · simp only [Act.put, List.setIfInBounds_toArray, List.set_cons_zero, List.set_cons_succ, i64_w, i32_w]
                              rfl
                            refine take_ (i := 4) (N := some 62) (v := ?_) (a' := ?_) #[true, true, true, true, true, true, true, true, false, true, false, false, false, false, false] rfl rfl (take_ofW HT_.out HW_.out (by kernel_rfl)) (fun _ _ _ h => h) (Or.inl ⟨by rfl, ?_⟩) hHeld ?_ ?_
                            rotate_left
                            · rintro w' ⟨s0, s1⟩
                              go_simp
                              with_reducible rfl
                            rotate_left
                            · simp only [Act.put, List.setIfInBounds_toArray, List.set_cons_zero, List.set_cons_succ, i64_w, i32_w]
                              rfl
                            refine take_ (i := 8) (N := some 66) (v := ?_) (a' := ?_) #[true, true, true, true, true, true, true, true, true, true, false, false, false, false, false] rfl rfl (take_ofW HT_.out HW_.out (by kernel_rfl)) (fun _ _ _ h => h) (Or.inl ⟨by rfl, ?_⟩) hHeld ?_ ?_
                            rotate_left
                            · rintro w' ⟨s0, s1⟩
                              go_simp
                              with_reducible rfl
                            rotate_left
                            · simp only [Act.put, List.setIfInBounds_toArray, List.set_cons_zero, List.set_cons_succ, i64_w, i32_w]
                              rfl
                            refine pure_ (i := 10) (N := some 68) (v := ?_) (a' := ?_) #[true, true, true, true, true, true, true, true, true, true, true, false, false, false, false] rfl rfl (any_of HT_.out (by kernel_rfl)) (fun _ _ _ h => h) (Or.inl ⟨by rfl, ?_⟩) ?_ ?_
                            rotate_left
                            · intro w'
                              go_simp
                              with_reducible rfl
                            rotate_left
                            · simp only [Act.put, List.setIfInBounds_toArray, List.set_cons_zero, List.set_cons_succ, i64_w, i32_w]
                              rfl
                            refine pure_ (i := 11) (N := some 69) (v := ?_) (a' := ?_) #[true, true, true, true, true, true, true, true, true, true, true, true, false, false, false] rfl rfl (any_of HT_.out (by kernel_rfl)) (fun _ _ _ h => h) (Or.inl ⟨by rfl, ?_⟩) ?_ ?_
                            rotate_left
                            · intro w'
                              go_simp
                              with_reducible rfl
                            rotate_left
                            · simp only [Act.put, List.setIfInBounds_toArray, List.set_cons_zero, List.set_cons_succ, i64_w, i32_w]
                              rfl
                            refine one_ (i := 12) (N := some 70) #[true, true, true, true, true, true, true, true, true, true, true, true, true, false, false] rfl rfl (one_of HT_.out (by kernel_rfl)) (by decide) (fun K hK => ?_)
                            refine value_ (w1 := ?_) (v := ?_) (by rfl) rfl ?_ ?_
                            rotate_left 2
                            · go_simp
                              constructor
                              · rfl
                              · rfl
                            refine hK.out _ _ ⟨(World.cell?_alloc_lt _ _ _ (World.block_lt_of_cell? _ _ (((HB.out.cell (World.block_lt_of_cell? w _ hw123_0)).trans hw123_0)))).trans (((HB.out.cell (World.block_lt_of_cell? w _ hw123_0)).trans hw123_0)), (World.cell?_alloc_lt _ _ _ (World.block_lt_of_cell? _ _ (((HB.out.cell (World.block_lt_of_cell? w _ hw124_0)).trans hw124_0)))).trans (((HB.out.cell (World.block_lt_of_cell? w _ hw124_0)).trans hw124_0))⟩ (fun hHeld => ?_)
                            clear hK K
                            refine norm_ (a' := ?_) ?_ ?_
                            rotate_left
                            · show Act.put _ (some 70) _ = _
                              simp only [Act.put, List.setIfInBounds_toArray, List.set_cons_zero, List.set_cons_succ, i64_w, i32_w]
                              rfl
                            refine one_ (i := 13) (N := some 71) #[true, true, true, true, true, true, true, true, true, true, true, true, true, true, false] rfl rfl (one_of HT_.out (by kernel_rfl)) (by decide) (fun K hK => ?_)
                            refine Kd.R_append_step (Kd.int .i64) (w0 := w) w.heap.size (by rfl) (.tmp 58) (.tmp 70) 22 3 (.int .i64 0) 8 rfl Try.underlying22 info3 rfl (by decide) (by omega) u7 x7_1 ji24 [.int .i64 ji24] (fun k_ => some k_ ≠ (v121 : Value).ownBlock) (fun _ => False) rfl rfl ?aP (fun _ hk => hk.elim) ?aF ?aO ?aB ?aS ?aL ?_
                            (case aP => exact rfl)
                            (case aB => exact (by repeat (first | (with_reducible first | exact HB.out | apply below_alloc | apply pw_below_drewN | apply below_drew1) | exact HB.out)))
                            (case aF => exact (fun k_ hk => Kd.fresh' (Kd.R_lt (by (with_reducible repeat (first | apply Kd.R_alloc | apply Kd.R_drewN | apply Kd.R_drew)); exact HO122.out)) k_ hk))
                            (case aO => exact (by (with_reducible repeat (first | apply Kd.R_alloc | apply Kd.R_drewN | apply Kd.R_drew)); exact Kd.R_mono HO_7.out (fun _ hk => hk.2)))
                            (case aS => exact (below_size (by repeat (first | (with_reducible first | exact HB.out | apply below_alloc | apply pw_below_drewN | apply below_drew1) | exact HB.out))))
                            (case aL => have := LMc25.out; omega)
                            intro v126 w29 ho hb hg hat
                            rw [← Ny125.out] at ho
                            have n0_ := Aside0.mk (Kd.R_after (ok := (fun _ => True)) (by (with_reducible repeat (first | apply Kd.R_alloc | apply Kd.R_drewN | apply Kd.R_drew)); exact Kd.R_mono HO122.out (fun _ hk => ⟨trivial, hk⟩)) hg hat)
                            have n1_ := Aside0.mk (hb)
                            have n2_ := Aside0.mk (ho)
                            clear HO122
                            clear HB
                            clear HO_7
                            have HO122 := n0_
                            have HB := n1_
                            have HO127 := n2_
                            clear n0_ n1_ n2_
                            clear ho hb hg hat
                            refine hK.out _ _ ⟨((HB.out.cell (World.block_lt_of_cell? w _ hw123_0)).trans hw123_0), ((HB.out.cell (World.block_lt_of_cell? w _ hw124_0)).trans hw124_0)⟩ (fun hHeld => ?_)
                            clear hK K
                            refine norm_ (a' := ?_) ?_ ?_
                            rotate_left
                            · show Act.put _ (some 71) _ = _
                              simp only [Act.put, List.setIfInBounds_toArray, List.set_cons_zero, List.set_cons_succ, i64_w, i32_w]
                              rfl
                            refine pure_ (i := 14) (N := some 7) (v := ?_) (a' := ?_) #[true, true, true, true, true, true, true, true, true, true, true, true, true, true, true] rfl rfl (any_of HT_.out (by kernel_rfl)) (fun _ _ _ h => h) (Or.inl ⟨by rfl, ?_⟩) ?_ ?_
                            rotate_left
                            · intro w'
                              go_simp
                              with_reducible rfl
                            rotate_left
                            · simp only [Act.put, List.setIfInBounds_toArray, List.set_cons_zero, List.set_cons_succ, i64_w, i32_w]
                              rfl
                            refine done_ (done_of HT_.out (by kernel_rfl)) ?_
                            try go_wp2
                            go_roundg k1
                            case measure => have := HK1.out; omega
                            case rel => exact ⟨(y120), (y125), (wrap64 (x26_1 + 1)), (by first | rfl | (simp; done) | (simp [*]; done)), H', ⟨by have := HK1.out; omega⟩, ⟨by (with_reducible repeat (first | apply Kd.R_alloc | apply Kd.R_drewN | apply Kd.R_drew)); exact Kd.R_mono HO122.out (fun _ hk => hk.2)⟩, ⟨by (with_reducible repeat (first | apply Kd.R_alloc | apply Kd.R_drewN | apply Kd.R_drew)); exact HO127.out⟩, ⟨by repeat (first | (with_reducible first | exact HB.out | apply below_alloc | apply pw_below_drewN | apply below_drew1) | exact HB.out)⟩⟩
                          · rw [if_neg c25] at H
                            exact absurd H (by simp)
                        · rw [if_neg c23] at H
                          exact absurd H (by simp)
                  · rw [if_neg c12] at H
                    exact absurd H (by simp)
                · rw [if_neg c11] at H
                  exact absurd H (by simp)
              · rw [if_neg c10] at H
                exact absurd H (by simp)
            · rw [if_neg c9] at H
              exact absurd H (by simp)
          · rw [if_neg c8] at H
            have c8b0 : decide (x26_1 < (l2.length : Int)) = false := decide_eq_false c8
            clear c8
            simp only [Option.some.injEq, Prod.mk.injEq] at H
            obtain ⟨rfl, rfl, rfl⟩ := H
            go_wp2
            go_ret3
            exact ⟨_, _, by first | rfl | (simp [errW_none, errW_some] <;> rfl) | (simp [*, errW_none, errW_some] <;> rfl), by (with_reducible repeat (first | apply Kd.R_alloc | apply Kd.R_drewN | apply Kd.R_drew)); exact HO_6.out, by (with_reducible repeat (first | apply Kd.R_alloc | apply Kd.R_drewN | apply Kd.R_drew)); exact HO_7.out, by repeat (first | (with_reducible first | exact HB.out | apply below_alloc | apply pw_below_drewN | apply below_drew1) | exact HB.out)⟩
    · replace c7 := Bool.eq_false_iff.mpr c7
      subst c7
      have H1 : (some (([] : List Int), ([] : List Int), 2)) = some (r1, r2, r3) := by rw [if_neg (show ¬ (false = true) by decide)] at H; exact H
      clear H
      have H := H1
      clear H1
      simp only [Option.some.injEq, Prod.mk.injEq] at H
      obtain ⟨rfl, rfl, rfl⟩ := H
      go_enter Try.func11, Try.ntmps11
      go_wp2_with (first | ((with_reducible refine gate_callee (f := 33) rfl ?_); refine goesL_ (some 15) rfl rfl Try.func33 (by kernel_rfl) rfl #[.slice A0 l0.length c0, .slice A1 l1.length c1] rfl (by (try simp only [List.map_toArray, List.map_cons, List.map_nil]); first | done | rfl | (simp only [List.length_drop, List.length_take]; rfl)) ?_; (with_reducible refine (grid_fit.calls _ _ l0 _ _ l1 t105 _ ?side1 ?side2 ?side3 ?side4 A4.out).mono ?_); (case side1 => repeat (first | exact HR0.out | (with_reducible refine Kd.C_alloc ?_ _) | (with_reducible refine Kd.C_drewN ?_ _) | (with_reducible refine Kd.C_drew ?_))); (case side2 => exact HC0.out); (case side3 => repeat (first | exact HR1.out | (with_reducible refine Kd.C_alloc ?_ _) | (with_reducible refine Kd.C_drewN ?_ _) | (with_reducible refine Kd.C_drew ?_))); (case side4 => exact HC1.out); rintro e w' ⟨rfl, ⟨nd, rfl⟩⟩; refine ⟨_, rfl, ?_⟩) | ((with_reducible refine gate_callee (f := 34) rfl ?_); refine goesL_ (some 22) rfl rfl Try.func34 (by kernel_rfl) rfl #[.slice A2 l2.length c2, .int .i64 (l0.length : Int)] rfl (by (try simp only [List.map_toArray, List.map_cons, List.map_nil]); first | done | rfl | (simp only [List.length_drop, List.length_take]; rfl)) ?_; (with_reducible refine (grid_right.calls _ _ l2 (l0.length : Int) false _ ?side1 ?side2 A6.out).mono ?_); (case side1 => repeat (first | exact HR2.out | (with_reducible refine Kd.C_alloc ?_ _) | (with_reducible refine Kd.C_drewN ?_ _) | (with_reducible refine Kd.C_drew ?_))); (case side2 => exact HC2.out); rintro e w' ⟨rfl, ⟨nd, rfl⟩⟩; refine ⟨_, rfl, ?_⟩))
      go_ret3
      exact ⟨_, _, by first | rfl | (simp [errW_none, errW_some] <;> rfl) | (simp [*, errW_none, errW_some] <;> rfl), by first | exact Kd.R_nil _ _ _ _ _ | exact Kd.N_nil _ _ _ _ _ | exact Kd.V_nil _ _ _ _ _ | exact Kd.Q_nil _ _ _ _ _ | exact Kd.S_nil _ _ _ _ _, by first | exact Kd.R_nil _ _ _ _ _ | exact Kd.N_nil _ _ _ _ _ | exact Kd.V_nil _ _ _ _ _ | exact Kd.Q_nil _ _ _ _ _ | exact Kd.S_nil _ _ _ _ _, by repeat (first | (with_reducible first | exact HB.out | apply below_alloc | apply pw_below_drewN | apply below_drew1) | exact HB.out)⟩
  · rw [if_neg c5] at H
    have c5b0 : (t105 == 0) = false := beq_eq_false_iff_ne.mpr c5
    have c5b1 : (t105 != 0) = true := bne_iff_ne.mpr c5
    simp only [Option.some.injEq, Prod.mk.injEq] at H
    obtain ⟨rfl, rfl, rfl⟩ := H
    go_enter Try.func11, Try.ntmps11
    go_wp2_with (first | ((with_reducible refine gate_callee (f := 33) rfl ?_); refine goesL_ (some 15) rfl rfl Try.func33 (by kernel_rfl) rfl #[.slice A0 l0.length c0, .slice A1 l1.length c1] rfl (by (try simp only [List.map_toArray, List.map_cons, List.map_nil]); first | done | rfl | (simp only [List.length_drop, List.length_take]; rfl)) ?_; (with_reducible refine (grid_fit.calls _ _ l0 _ _ l1 t105 _ ?side1 ?side2 ?side3 ?side4 A4.out).mono ?_); (case side1 => repeat (first | exact HR0.out | (with_reducible refine Kd.C_alloc ?_ _) | (with_reducible refine Kd.C_drewN ?_ _) | (with_reducible refine Kd.C_drew ?_))); (case side2 => exact HC0.out); (case side3 => repeat (first | exact HR1.out | (with_reducible refine Kd.C_alloc ?_ _) | (with_reducible refine Kd.C_drewN ?_ _) | (with_reducible refine Kd.C_drew ?_))); (case side4 => exact HC1.out); rintro e w' ⟨rfl, ⟨nd, rfl⟩⟩; refine ⟨_, rfl, ?_⟩))
    go_ret3
    exact ⟨_, _, by first | rfl | (simp [errW_none, errW_some] <;> rfl) | (simp [*, errW_none, errW_some] <;> rfl), by first | exact Kd.R_nil _ _ _ _ _ | exact Kd.N_nil _ _ _ _ _ | exact Kd.V_nil _ _ _ _ _ | exact Kd.Q_nil _ _ _ _ _ | exact Kd.S_nil _ _ _ _ _, by first | exact Kd.R_nil _ _ _ _ _ | exact Kd.N_nil _ _ _ _ _ | exact Kd.V_nil _ _ _ _ _ | exact Kd.Q_nil _ _ _ _ _ | exact Kd.S_nil _ _ _ _ _, by repeat (first | (with_reducible first | exact HB.out | apply below_alloc | apply pw_below_drewN | apply below_drew1) | exact HB.out)⟩
end Go.Proofs.Ytjbjofmcmjojlab.Wk
end
section
namespace Go.Proofs.Ytjbjofmcmjojlab.Wk
open Go.RowKit Go.Proofs.YtjbjofmcmjojlabW.PrintWords Go.Proofs.YtjbjofmcmjojlabW.PrintLast Go.Proofs.YtjbjofmcmjojlabW.PrintMore
attribute [local go_sem] max2_int min2_int max_two min_two max_three min_three max_four min_four
set_option linter.unusedVariables false
set_option linter.unusedSimpArgs false
section
def grid_moved.l0 : Nat → List Int → List Int → Int → Int → Option (List Int)
  | 0, _, _, _, _ => none
  | k + 1, x1, x5, x10, x11 => if x11 < x10 then (if 0 ≤ x11 then (if x11 < (x5.length : Int) then (if x11 < (x1.length : Int) then (grid_moved.l0 k x1 (x5.set (x11 : Int).toNat (wrap64 ((rd x5 x11) + (rd x1 x11)))) x10 (wrap64 (x11 + 1))) else (none)) else (none)) else (none)) else (some x5)
def grid_moved.f (k : Nat) (l0 : List Int) (l1 : List Int) : Option (List Int) := (slices_Clone_int_int.f l0).bind fun t180 => (grid_moved.l0 k l1 t180 (t180.length : Int) 0)
def grid_moved.T5 : Bool × List (List Nat × List Nat) := (true, [([], []), ([], []), ([0, 1], [0, 1]), ([2], [2]), ([], []), ([], []), ([4, 5], [4, 5]), ([6], [6]), ([3, 7], [3, 7]), ([0, 1, 0, 1, 2, 3, 4, 5, 6, 7, 8], [0, 1]), ([9, 8, 0, 1, 2, 3, 4, 5, 6, 7, 8], [8, 9])])
def grid_moved.B5 : List Nat := [0, 0, 3, 7, 0, 0, 48, 112, 255, 511, 1023]
theorem grid_moved.tab5 : rtab .any (opsOf Try.f43 5) = grid_moved.T5 := by kernel_rfl
theorem grid_moved.bits5 : waitsOk grid_moved.T5.2 grid_moved.B5 = true := by kernel_rfl
set_option maxHeartbeats 8000000 in
set_option maxRecDepth 100000 in
theorem grid_moved.calls (k : Nat) (A0 : Option Addr) (c0 : Nat) (l0 : List Int) (A1 : Option Addr) (c1 : Nat) (l1 : List Int) (r : List Int) (w : World) (hr0 : Kd.C (Kd.int .i64) w A0 l0.length l0) (hc0 : l0.length ≤ c0) (hr1 : Kd.C (Kd.int .i64) w A1 l1.length l1) (hc1 : l1.length ≤ c1) (h : grid_moved.f k l0 l1 = some r) :
    Calls Try.prog 43 #[.slice A0 l0.length c0, .slice A1 l1.length c1] w fun e w' => ∃ v0_ : Value, e = .returned (v0_) ∧ Kd.R (Kd.int .i64) 3 w' w.heap.size (fun _ => True) v0_ r ∧ Below w.heap.size w w' := by
  have HR0 := Aside0.mk hr0
  have HC0 := Aside0.mk hc0
  clear hr0 hc0
  have HR1 := Aside0.mk hr1
  have HC1 := Aside0.mk hc1
  clear hr1 hc1
  have HB := Aside0.mk (Below.refl w.heap.size w)
  have H : ((slices_Clone_int_int.f l0).bind fun t180 => (grid_moved.l0 k l1 t180 (t180.length : Int) 0)) = some r := h
  clear h
  replace H := Option.bind_eq_some_iff.mp H
  obtain ⟨t180, A30, H⟩ := H
  replace H : (grid_moved.l0 k l1 t180 (t180.length : Int) 0) = some r := H
  have A3 := Aside0.mk A30
  clear A30
  have H' := Aside0.mk H
  clear H
  go_enter Try.func43, Try.ntmps43
  go_wp2_with (first | ((with_reducible refine gate_callee (f := 48) rfl ?_); refine goesL_ (some 8) rfl rfl Try.func48 (by kernel_rfl) rfl #[.slice A0 l0.length c0] rfl (by (try simp only [List.map_toArray, List.map_cons, List.map_nil]); first | done | rfl | (simp only [List.length_drop, List.length_take]; rfl)) ?_; (with_reducible refine (slices_Clone_int_int.calls _ _ l0 t180 _ ?side1 ?side2 A3.out).mono ?_); (case side1 => repeat (first | exact HR0.out | (with_reducible refine Kd.C_alloc ?_ _) | (with_reducible refine Kd.C_drewN ?_ _) | (with_reducible refine Kd.C_drew ?_))); (case side2 => exact HC0.out); rintro e w4 ⟨v181, rfl, ho0, hb⟩; refine ⟨_, rfl, ?_⟩; have n0_ := Aside0.mk (Kd.R_lower ho0 (below_size (by repeat (first | (with_reducible first | exact HB.out | apply below_alloc | apply pw_below_drewN | apply below_drew1) | exact HB.out)))); have n1_ := Aside0.mk (below_step (by repeat (first | (with_reducible first | exact HB.out | apply below_alloc | apply pw_below_drewN | apply below_drew1) | exact HB.out)) hb); clear HB; have HO182 := n0_; have HB := n1_; clear n0_ n1_; (try clear hb); (try clear hb2); (try clear hk); (try clear hi); (try clear ho0); obtain ⟨Ao5, co5, eo5⟩ := Kd.R_slice HO182.out; subst eo5))
  go_loopg [11] k (fun kq v11 w' => ∃ (x5_1 : List Int) (x11_1 : Int), v11 = .int .i64 x11_1 ∧ Aside0 (grid_moved.l0 kq l1 x5_1 (t180.length : Int) x11_1 = some r) ∧ Aside0 (kq ≤ k) ∧ Aside0 (Kd.R (Kd.int .i64) 3 w' w.heap.size (fun _ => True) (.slice Ao5 t180.length co5) x5_1) ∧ Aside0 (Below w.heap.size w w'))
  case atStart => exact ⟨(t180), (0), (by first | rfl | (simp; done) | (simp [*]; done)), H', ⟨Nat.le_refl _⟩, ⟨by (with_reducible repeat (first | apply Kd.R_alloc | apply Kd.R_drewN | apply Kd.R_drew)); exact HO182.out⟩, ⟨by repeat (first | (with_reducible first | exact HB.out | apply below_alloc | apply pw_below_drewN | apply below_drew1) | exact HB.out)⟩⟩
  case round =>
    clear H'
    try clear c1
    try clear p2
    try clear c4
    obtain ⟨x5_1, x11_1, rfl, HA, HK1, HO_5, HB⟩ := hrel
    have hl5_1 := (Kd.R_reads' HO_5.out).1
    rw [hl5_1] at HO_5
    (try simp only [hl5_1])
    cases gk with
    | zero => exact absurd HA.out (by simp [grid_moved.l0])
    | succ k1 =>
      have H := HA.out
      clear HA
      simp only [grid_moved.l0] at H
      by_cases c6 : x11_1 < (t180.length : Int)
      · rw [if_pos c6] at H
        have c6b0 : decide (x11_1 < (t180.length : Int)) = true := decide_eq_true c6
        try rw [hl5_1] at c6b0
        clear c6
        by_cases c7 : 0 ≤ x11_1
        · rw [if_pos c7] at H
          have c7b0 : decide (0 ≤ x11_1) = true := decide_eq_true c7
          clear c7
          by_cases c8 : x11_1 < (x5_1.length : Int)
          · rw [if_pos c8] at H
            have c8b0 : decide (x11_1 < (x5_1.length : Int)) = true := decide_eq_true c8
            clear c8
            by_cases c9 : x11_1 < (l1.length : Int)
            · rw [if_pos c9] at H
              have c9b0 : decide (x11_1 < (l1.length : Int)) = true := decide_eq_true c9
              clear c9
              obtain ⟨y185, hy185⟩ : ∃ y_ : List Int, y_ = (x5_1.set (x11_1 : Int).toNat (wrap64 ((rd x5_1 x11_1) + (rd l1 x11_1)))) := ⟨_, rfl⟩
              replace H : (grid_moved.l0 k1 l1 y185 (t180.length : Int) (wrap64 (x11_1 + 1))) = some r := by first | (rw [hy185]; with_reducible exact H) | (have H2_ := (Option.bind_some _ _).symm.trans H; rw [hy185]; with_reducible exact H2_) | (have H2_ := (Option.bind_some _ _).symm.trans H; with_reducible exact H2_) | with_reducible exact H | (rw [hy185]; exact H) | exact H
              have Ny185 := Aside0.mk hy185
              clear hy185
              have H' := Aside0.mk H
              clear H
              try go_wp2
              have n0_ := Aside0.mk (Kd.R_drew HO_5.out)
              have n1_ := Aside0.mk (below_drew1 HB.out)
              clear HO_5
              clear HB
              have HO_5 := n0_
              have HB := n1_
              clear n0_ n1_
              have p183 : 0 ≤ (x11_1 : Int) := of_decide_eq_true (by first | (with_reducible assumption) | assumption)
              have q183 : x11_1 < (x5_1.length : Int) := of_decide_eq_true (by first | (with_reducible assumption) | assumption)
              obtain ⟨ad183, e183, hx183_0⟩ := Kd.at_int (Kd.R_reads' HO_5.out).2.2 x11_1 p183 q183
              cases e183
              replace p183 := eq_true p183
              replace q183 := eq_true q183
              have p184 : 0 ≤ (x11_1 : Int) := of_decide_eq_true (by first | (with_reducible assumption) | assumption)
              have q184 : x11_1 < (l1.length : Int) := of_decide_eq_true (by first | (with_reducible assumption) | assumption)
              obtain ⟨ad184, e184, hx184_0⟩ := Kd.at_int HR1.out x11_1 p184 q184
              have hw184_0 := hx184_0
              cases e184
              replace hx184_0 := (HB.out.cell (World.block_lt_of_cell? w _ hx184_0)).trans hx184_0
              replace p184 := eq_true p184
              replace q184 := eq_true q184
              have p10 : 0 ≤ (x11_1 : Int) := of_decide_eq_true (by first | (with_reducible assumption) | assumption)
              have q10 : (x11_1 : Int) < ((x5_1.length : Int) : Int) := of_decide_eq_true (by first | (with_reducible assumption) | assumption)
              obtain ⟨go10, co10, eo10, gb10, gl10, cl10, HG10⟩ := Kd.R_form HO_5.out (by omega)
              (first | cases eo10 | (injection eo10 with ea_ en_ ec_; (first | subst ea_ | (injection ea_ with ea_; subst ea_)); subst ec_; clear en_))
              have GB10 := Aside0.mk gb10
              have GG10 := Aside0.mk HG10
              clear gb10 gl10 HG10
              (first | simp only [add_plain] at hx183_0 | skip)
              obtain ⟨hx10_0, hf10_0⟩ := Kd.R_celln 0 HO_5.out (x11_1 : Int) p10 q10
              replace p10 := eq_true p10
              replace q10 := eq_true q10
              have HP12 := Kd.R_putn HO_5.out (x11_1 : Int) (wrap64 ((rd x5_1 x11_1) + (rd l1 x11_1)))
              rw [← Ny185.out] at HP12
              have HQ12 := Aside0.mk HP12
              clear HP12
              refine start_ (n := 11) (S := fun w' => w'.cell? ⟨go10, (x11_1).toNat, none⟩ = some (.int .i64 (rd x5_1 x11_1)) ∧ w'.cell? (ad184.add (x11_1).toNat) = some (.int .i64 (rd l1 x11_1))) (ds := [10]) #[false, false, false, false, false, false, false, false, false, false, false] (by kernel_rfl) rfl rfl ⟨hx183_0, ((HB.out.cell (World.block_lt_of_cell? w _ hw184_0)).trans hw184_0)⟩ (fun hHeld => ?_); refine with_tabW grid_moved.tab5 grid_moved.bits5 (fun HT_ HW_ => ?_)
              generalize wr.drew = w11 at HO_5 HB GG10 HQ12 hf10_0 hx10_0 hx183_0 hx184_0 hHeld ⊢
              refine pure_ (i := 0) (N := some 14) (v := ?_) (a' := ?_) #[true, false, false, false, false, false, false, false, false, false, false] rfl rfl (any_of HT_.out (by kernel_rfl)) (fun _ _ _ h => h) (Or.inl ⟨by rfl, ?_⟩) ?_ ?_
              rotate_left
              · intro w'
                go_simp
                with_reducible rfl
              rotate_left
              · simp only [Act.put, List.setIfInBounds_toArray, List.set_cons_zero, List.set_cons_succ, i64_w, i32_w]
                rfl
              refine pure_ (i := 1) (N := some 15) (v := ?_) (a' := ?_) #[true, true, false, false, false, false, false, false, false, false, false] rfl rfl (any_of HT_.out (by kernel_rfl)) (fun _ _ _ h => h) (Or.inl ⟨by rfl, ?_⟩) ?_ ?_
              rotate_left
              · intro w'
                go_simp
                with_reducible rfl
              rotate_left
              · simp only [Act.put, List.setIfInBounds_toArray, List.set_cons_zero, List.set_cons_succ, i64_w, i32_w]
                rfl
              refine pure_ (i := 2) (N := some 16) (v := ?_) (a' := ?_) #[true, true, true, false, false, false, false, false, false, false, false] rfl rfl (any_of HT_.out (by kernel_rfl)) (fun _ _ _ h => h) (Or.inl ⟨by rfl, ?_⟩) ?_ ?_
              rotate_left
              · intro w'
                go_simp
                with_reducible rfl
              rotate_left
              · simp only [Act.put, List.setIfInBounds_toArray, List.set_cons_zero, List.set_cons_succ, i64_w, i32_w]
                rfl
              refine pure_ (i := 4) (N := some 18) (v := ?_) (a' := ?_) #[true, true, true, false, true, false, false, false, false, false, false] rfl rfl (any_of HT_.out (by kernel_rfl)) (fun _ _ _ h => h) (Or.inl ⟨by rfl, ?_⟩) ?_ ?_
              rotate_left
              · intro w'
                go_simp
                with_reducible rfl
              rotate_left
              · simp only [Act.put, List.setIfInBounds_toArray, List.set_cons_zero, List.set_cons_succ, i64_w, i32_w]
                rfl
              refine pure_ (i := 5) (N := some 19) (v := ?_) (a' := ?_) #[true, true, true, false, true, true, false, false, false, false, false] rfl rfl (any_of HT_.out (by kernel_rfl)) (fun _ _ _ h => h) (Or.inl ⟨by rfl, ?_⟩) ?_ ?_
              rotate_left
              · intro w'
                go_simp
                with_reducible rfl
              rotate_left
              · simp only [Act.put, List.setIfInBounds_toArray, List.set_cons_zero, List.set_cons_succ, i64_w, i32_w]
                rfl
              refine pure_ (i := 6) (N := some 20) (v := ?_) (a' := ?_) #[true, true, true, false, true, true, true, false, false, false, false] rfl rfl (any_of HT_.out (by kernel_rfl)) (fun _ _ _ h => h) (Or.inl ⟨by rfl, ?_⟩) ?_ ?_
              rotate_left
              · intro w'
                go_simp
                with_reducible rfl
              rotate_left
              · simp only [Act.put, List.setIfInBounds_toArray, List.set_cons_zero, List.set_cons_succ, i64_w, i32_w]
                rfl
              refine take_ (i := 3) (N := some 17) (v := ?_) (a' := ?_) #[true, true, true, true, true, true, true, false, false, false, false] rfl rfl (take_ofW HT_.out HW_.out (by kernel_rfl)) (fun _ _ _ h => h) (Or.inl ⟨by rfl, ?_⟩) hHeld ?_ ?_
              rotate_left
              · rintro w' ⟨s0, s1⟩
                go_simp
                with_reducible rfl
              rotate_left
              · simp only [Act.put, List.setIfInBounds_toArray, List.set_cons_zero, List.set_cons_succ, i64_w, i32_w]
                rfl
              refine take_ (i := 7) (N := some 21) (v := ?_) (a' := ?_) #[true, true, true, true, true, true, true, true, false, false, false] rfl rfl (take_ofW HT_.out HW_.out (by kernel_rfl)) (fun _ _ _ h => h) (Or.inl ⟨by rfl, ?_⟩) hHeld ?_ ?_
              rotate_left
              · rintro w' ⟨s0, s1⟩
                go_simp
                with_reducible rfl
              rotate_left
              · simp only [Act.put, List.setIfInBounds_toArray, List.set_cons_zero, List.set_cons_succ, i64_w, i32_w]
                rfl
              refine pure_ (i := 8) (N := some 22) (v := ?_) (a' := ?_) #[true, true, true, true, true, true, true, true, true, false, false] rfl rfl (any_of HT_.out (by kernel_rfl)) (fun _ _ _ h => h) (Or.inl ⟨by rfl, ?_⟩) ?_ ?_
              rotate_left
              · intro w'
                go_simp
                with_reducible rfl
              rotate_left
              · simp only [Act.put, List.setIfInBounds_toArray, List.set_cons_zero, List.set_cons_succ, i64_w, i32_w]
                rfl
              refine pure_ (i := 9) (N := some 23) (v := ?_) (a' := ?_) #[true, true, true, true, true, true, true, true, true, true, false] rfl rfl (any_of HT_.out (by kernel_rfl)) (fun _ _ _ h => h) (Or.inl ⟨by rfl, ?_⟩) ?_ ?_
              rotate_left
              · intro w'
                go_simp
                with_reducible rfl
              rotate_left
              · simp only [Act.put, List.setIfInBounds_toArray, List.set_cons_zero, List.set_cons_succ, i64_w, i32_w]
                rfl
              refine last_ (i := 10) (N := none) #[true, true, true, true, true, true, true, true, true, true, true] rfl rfl (one_of HT_.out (by kernel_rfl)) (by decide) (fun K hK => ?_)
              refine skip_ (w1 := ?_) (by rfl) rfl ?_ ?_
              rotate_left
              · go_simp
                rfl
              refine hK.out _ _ ?_
              clear hK K
              refine done_ (done_of HT_.out (by kernel_rfl)) ?_
              try go_wp2
              (try simp only [← hl5_1])
              go_roundg k1
              case measure => have := HK1.out; omega
              case rel => exact ⟨(y185), (wrap64 (x11_1 + 1)), (by first | rfl | (simp; done) | (simp [*]; done)), H', ⟨by have := HK1.out; omega⟩, ⟨by (try simp only [hl5_1]); (with_reducible repeat (first | apply Kd.R_alloc | apply Kd.R_drewN | apply Kd.R_drew)); exact HQ12.out⟩, ⟨by repeat (first | (with_reducible first | exact HB.out | apply below_alloc | apply pw_below_drewN | apply below_drew1 | refine below_set ?_ GB10.out) | exact HB.out)⟩⟩
            · rw [if_neg c9] at H
              exact absurd H (by simp)
          · rw [if_neg c8] at H
            exact absurd H (by simp)
        · rw [if_neg c7] at H
          exact absurd H (by simp)
      · rw [if_neg c6] at H
        have c6b0 : decide (x11_1 < (t180.length : Int)) = false := decide_eq_false c6
        try rw [hl5_1] at c6b0
        clear c6
        obtain rfl := Option.some.inj H
        go_wp2
        go_ret
        exact ⟨_, by first | rfl | (simp [errW_none, errW_some] <;> rfl) | (simp [*, errW_none, errW_some] <;> rfl), by (with_reducible repeat (first | apply Kd.R_alloc | apply Kd.R_drewN | apply Kd.R_drew)); exact HO_5.out, by repeat (first | (with_reducible first | exact HB.out | apply below_alloc | apply pw_below_drewN | apply below_drew1) | exact HB.out)⟩
end
end Go.Proofs.Ytjbjofmcmjojlab.Wk
end
