-- Texts that the row GridClips leans on, joined by wip/tools/mkclaim.py: QRangeMem, QOdo, QAppendIn, QCopyAt, Wk0, Wk1, Wk2, Wk3, Wk4, Wk5, Wk6, Wk7, Wk8, Wk9, Wk10, Wk11
import Derived.Test.YtjbjofmcmjojlabCGridClips0
import Derived.RangeFuncNested
import Derived.RangeFuncBound
import Derived.RangeFuncCalls
import Derived.RangeFuncLeaves
import Derived.WalkKit
import Derived.OwnWalkIn
import Derived.Maps.AppendAt
import Derived.Test.YtjbjofmcmjojlabProg
import Derived.Below
import Derived.Deep.Draws
import Derived.Deep.AppendLies
import Derived.OwnWalk
import Derived.Laws.BytesArg
import Derived.Laws.MakeOwn
import Derived.Laws.OwnMore
import Derived.Deep.OwnRows
import Derived.Tactics
import Derived.Lib.ConvBytes
import Derived.Laws.Slices
import Derived.KernelRfl
import Derived.RowKit3
import Derived.Deep.LoopGhost
import Derived.Deep.QuietTactic
import Derived.BigQuiet
import Derived.WideLaws
import Derived.Deep.DeepCutAuto
import Derived.Deep.CutBlock
import Derived.Deep.RegionHeld3
import Derived.Laws.Rows
import Derived.Lib.AppendStr
import Derived.ArgAppend
import Derived.Laws.IdiomCopy
import Derived.OrdersHeld
import Derived.Laws.BitsLemmas
import Derived.RowKit
import Derived.WalkSpells
import Derived.Sort.LoopGhostIn
import Derived.Sort.CutIn
import Derived.Shelf.Abstract
import Derived.Shelf.RegionOpen
import Derived.TacticsInMore
import Derived.LoopNIn
import Derived.LoopIn
import Derived.Lib.MakeNoZero
import Derived.Lib.SlBytesConst
section
namespace Go.Proofs.YtjbjofmcmjojlabQ
open Go Go.RowKit
structure SameOn (S : Nat → Prop) (A B : World) : Prop where
  size : A.heap.size ≤ B.heap.size
  same : ∀ k, S k → k < A.heap.size → B.heap[k]? = A.heap[k]?
  os : B.os = A.os
  tape : B.tape = A.tape
  output : B.output = A.output
theorem SameOn.refl (S : Nat → Prop) (A : World) : SameOn S A A := ⟨Nat.le_refl _, fun _ _ _ => rfl, rfl, rfl, rfl⟩
theorem SameOn.trans {S : Nat → Prop} {A B C : World} (h : SameOn S A B) (g : SameOn S B C) : SameOn S A C :=
  ⟨Nat.le_trans h.1 g.1, fun k hk hl => (g.2 k hk (Nat.lt_of_lt_of_le hl h.1)).trans (h.2 k hk hl), g.os.trans h.os, g.tape.trans h.tape, g.output.trans h.output⟩
theorem SameOn.mono {S T : Nat → Prop} {A B : World} (h : SameOn S A B) (hs : ∀ k, T k → S k) : SameOn T A B := ⟨h.1, fun k hk hl => h.2 k (hs k hk) hl, h.os, h.tape, h.output⟩
theorem SameOn.of_below {S : Nat → Prop} {A B : World} (h : Below A.heap.size A B) : SameOn S A B := ⟨h.size, fun k _ hl => h.block k hl, h.os, h.tape, h.output⟩
theorem SameOn.alloc (S : Nat → Prop) (A : World) (o : Obj) : SameOn S A (A.alloc o) := SameOn.of_below ((Below.refl _ _).alloc (Nat.le_refl _) o)
theorem SameOn.setCell {S : Nat → Prop} (A : World) (a : Addr) (v : Value) (h : ¬ S a.block) : SameOn S A (A.setCell a v) :=
  have hb : Below 0 A (A.setCell a v) := (Below.refl 0 A).setCell (Nat.zero_le _) v
  ⟨hb.size, fun k hk _ => Below.heap_setCell A a v k (fun e => h (e ▸ hk)), hb.os, hb.tape, hb.output⟩
theorem SameOn.drew (S : Nat → Prop) (A : World) : SameOn S A A.drew := SameOn.of_below (Below.refl _ A).drew
theorem SameOn.below {S : Nat → Prop} {A B : World} {b : Nat} (h : SameOn S A B) (hS : ∀ k, k < b → S k) (hb : b ≤ A.heap.size) : Below b A B :=
  ⟨h.os, h.tape, h.output, h.size, fun k hk => h.same k (hS k hk) (Nat.lt_of_lt_of_le hk hb)⟩
structure Bears {α : Type} (S0 : Nat → Prop) (J : (Nat → Prop) → List α → World → Prop) : Prop where
  step : ∀ S pre A B, J S pre A → SameOn (fun k => ¬ S k ∨ S0 k) A B → J S pre B
  more : ∀ (S T : Nat → Prop) pre A, J S pre A → (∀ k, T k → A.heap.size ≤ k) → J (fun k => S k ∨ T k) pre A
def Hands {α : Type} (P : Program) (g : Nat) (lb : Array Value) (Rd : α → Value → World → Prop) (xs : List α) (S0 : Nat → Prop) (w : World) : Prop :=
  ∀ (l n : Nat) (J : (Nat → Prop) → List α → World → Prop) (W : World), SameOn S0 w W → Bears S0 J →
    (∀ (S : Nat → Prop) pre x v A, J S pre A → (∀ k, S0 k → S k) → (∀ k, S k → k < A.heap.size) → (pre ++ [x]) <+: xs → Rd x v A →
      YieldAt Fence.wide (n - 1) P l #[v] A fun e W' => e = .returned (.bool true) ∧ J S (pre ++ [x]) W' ∧ SameOn S A W') →
    J S0 [] W →
    CallsIn Fence.wide n P g (#[.func (.yield l) #[] #[]] ++ lb) W fun e W' => (∃ v, e = .returned v) ∧ ∃ S, J S xs W'
variable {P : Program}
def roundOn {α : Type} (I : (Nat → Prop) → List α → World → Prop) (S : Nat → Prop) (pre : List α) (W : World) : Exit → Act → World → Prop
  | .normal, _, W' => KeepsOthers W W' ∧ I S pre W' ∧ SameOn S W W'
  | _, _, _ => False
end Go.Proofs.YtjbjofmcmjojlabQ
end
section
namespace Go.Proofs.YtjbjofmcmjojlabQ
def odoNext (N : List Nat) : List Nat → Nat → Option (List Nat)
  | _, 0 => none
  | s, d + 1 => if s.getD d 0 + 1 < N.getD d 0 then some (s.set d (s.getD d 0 + 1)) else odoNext N (s.set d 0) d
inductive Odo (N : List Nat) : List Nat → List (List Nat) → Prop where
  | last {s : List Nat} : odoNext N s N.length = none → Odo N s [s]
  | more {s s' : List Nat} {l : List (List Nat)} : odoNext N s N.length = some s' → Odo N s' l → Odo N s (s :: l)
def tupAt (av : Nat → Nat → Int) (s : List Nat) : List Int := (List.range s.length).map fun d => av d (s.getD d 0)
def ints (s : List Nat) : List Int := s.map Int.ofNat
def lexList : List Nat → List (List Nat)
  | [] => [[]]
  | n :: N => (List.range n).flatMap fun i => (lexList N).map (i :: ·)
def odoGo (N : List Nat) : List Nat → Nat → List Nat × Bool
  | s, 0 => (s, false)
  | s, d + 1 => if s.getD d 0 + 1 < N.getD d 0 then (s.set d (s.getD d 0 + 1), true) else odoGo N (s.set d 0) d
theorem odoNext_go (N : List Nat) : ∀ (m : Nat) (s : List Nat), odoNext N s m = if (odoGo N s m).2 then some (odoGo N s m).1 else none
  | 0, s => rfl
  | m + 1, s => by
    simp only [odoNext, odoGo]
    split
    · rfl
    · exact odoNext_go N m _
theorem odoGo_cons (n i : Nat) (N : List Nat) : ∀ (m : Nat) (s : List Nat), odoGo (n :: N) (i :: s) (m + 1) =
    if (odoGo N s m).2 then (i :: (odoGo N s m).1, true) else if i + 1 < n then ((i + 1) :: (odoGo N s m).1, true) else (0 :: (odoGo N s m).1, false)
  | 0, s => by simp [odoGo]
  | m + 1, s => by
    rw [odoGo]
    simp only [List.getD_cons_succ, List.set_cons_succ]
    by_cases h : s.getD m 0 + 1 < N.getD m 0
    · have e : odoGo N s (m + 1) = (s.set m (s.getD m 0 + 1), true) := by rw [odoGo, if_pos h]
      rw [if_pos h, e]
      simp
    · have e : odoGo N s (m + 1) = odoGo N (s.set m 0) m := by rw [odoGo, if_neg h]
      rw [if_neg h, odoGo_cons n i N m (s.set m 0), e]
theorem odoGo_off (N : List Nat) : ∀ (m : Nat) (s : List Nat), m ≤ s.length → (odoGo N s m).2 = false → (odoGo N s m).1 = List.replicate m 0 ++ s.drop m
  | 0, s, _, _ => by simp [odoGo]
  | m + 1, s, hm, h => by
    simp only [odoGo] at h ⊢
    by_cases hc : s.getD m 0 + 1 < N.getD m 0
    · rw [if_pos hc] at h; cases h
    · rw [if_neg hc] at h ⊢
      rw [odoGo_off N m (s.set m 0) (by simp; omega) h]
      rw [List.drop_eq_getElem_cons (by simp; omega : m < (s.set m 0).length)]
      simp only [List.getElem_set_self, List.drop_set]
      rw [if_pos (by omega), List.replicate_succ']
      simp
theorem Odo.length {N s : List Nat} {l : List (List Nat)} (h : Odo N s l) : 0 < l.length := by cases h <;> simp
theorem Odo.cons {n i : Nat} {N s : List Nat} {l T : List (List Nat)} (h : Odo N s l) (hs : s.length = N.length)
    (hT : (i + 1 < n ∧ Odo (n :: N) ((i + 1) :: List.replicate N.length 0) T) ∨ (n ≤ i + 1 ∧ T = [])) : Odo (n :: N) (i :: s) (l.map (i :: ·) ++ T) := by
  induction h with
  | @last s h =>
    rw [odoNext_go] at h
    have h0 : (odoGo N s N.length).2 = false := by
      cases e : (odoGo N s N.length).2 with
      | false => rfl
      | true => rw [if_pos e] at h; cases h
    have h1 := odoGo_off N N.length s (by omega) h0
    rw [List.drop_eq_nil_of_le (by omega), List.append_nil] at h1
    rcases hT with ⟨h2, h3⟩ | ⟨h2, rfl⟩
    · refine Odo.more ?_ h3
      rw [odoNext_go, List.length_cons, odoGo_cons, h0]
      simp [h2, h1]
    · refine Odo.last ?_
      rw [odoNext_go, List.length_cons, odoGo_cons, h0]
      simp [show ¬ i + 1 < n by omega]
  | @more s s' l h _ ih =>
    have hl : s'.length = N.length := by
      rw [odoNext_go] at h
      split at h
      · injection h with h
        rw [← h]
        have : ∀ (m : Nat) (s : List Nat), (odoGo N s m).1.length = s.length := by
          intro m
          induction m with
          | zero => intro s; rfl
          | succ m ih => intro s; simp only [odoGo]; split <;> simp [ih]
        rw [this, hs]
      · cases h
    refine Odo.more ?_ (ih hl)
    rw [odoNext_go] at h ⊢
    rw [List.length_cons, odoGo_cons]
    split at h
    · rename_i h2
      injection h with h
      simp [h2, h]
    · cases h
theorem odo_tail (n : Nat) (N : List Nat) (ih : Odo N (List.replicate N.length 0) (lexList N)) : ∀ (d i : Nat), n - i = d → i < n →
    Odo (n :: N) (i :: List.replicate N.length 0) ((List.range' i d).flatMap fun i => (lexList N).map (i :: ·))
  | 0, i, h, hi => by omega
  | d + 1, i, h, hi => by
    rw [List.range'_succ, List.flatMap_cons]
    refine Odo.cons ih (by simp) ?_
    by_cases h2 : i + 1 < n
    · exact .inl ⟨h2, odo_tail n N ih d (i + 1) (by omega) h2⟩
    · refine .inr ⟨by omega, ?_⟩
      have : d = 0 := by omega
      subst this
      rfl
theorem odo_lex : ∀ (N : List Nat), (∀ d, d < N.length → 0 < N.getD d 0) → Odo N (List.replicate N.length 0) (lexList N)
  | [], _ => Odo.last rfl
  | n :: N, h => by
    have h0 : 0 < n := h 0 (by simp)
    have ih := odo_lex N (fun d hd => by have := h (d + 1) (by simp; omega); simpa using this)
    have := odo_tail n N ih n 0 (by omega) h0
    rw [lexList, List.range_eq_range']
    exact this
end Go.Proofs.YtjbjofmcmjojlabQ
end
section
namespace Go.Proofs.YtjbjofmcmjojlabQ
open Go
end Go.Proofs.YtjbjofmcmjojlabQ
end
section
namespace Go.Proofs.YtjbjofmcmjojlabQ
open Go Go.RowKit Go.Proofs.YtjbjofmcmjojlabW.PrintWords Go.Proofs.YtjbjofmcmjojlabW.PrintLast Go.Proofs.YtjbjofmcmjojlabW.PrintMore
variable {P : Program}
def laid {α : Type} (xs : List α) (o : Nat) (ys : List α) : List α := xs.take o ++ (ys ++ xs.drop (o + ys.length))
theorem laid_length {α : Type} (xs : List α) (o : Nat) (ys : List α) (h : o + ys.length ≤ xs.length) : (laid xs o ys).length = xs.length := by simp [laid]; omega
theorem laid_end {α : Type} (xs ys : List α) : laid xs xs.length ys = xs ++ ys := by
  simp [laid]
abbrev bytesV (xs : List Int) : List Value := xs.map (Value.int .u8)
structure Buf (e : Nat) (W : World) (g n : Nat) (xs : List Int) : Prop where
  len : xs.length ≤ n
  max : n ≤ 9223372036854775807
  blk : ∃ cur : Array Value, W.heap[g]? = some (.cells cur e (0, 0)) ∧ n ≤ cur.size ∧ cur.toList.take xs.length = bytesV xs
section
variable {e g n : Nat} {W W' : World} {xs ys : List Int}
theorem Buf.step (h : Buf e W g n xs) (hm : W'.heap[g]? = W.heap[g]?) : Buf e W' g n xs := by
  obtain ⟨h1, h2, cur, h3, h4⟩ := h
  exact ⟨h1, h2, cur, hm.trans h3, h4⟩
theorem Buf.lt (h : Buf e W g n xs) : g < W.heap.size := by
  obtain ⟨_, _, cur, h3, _⟩ := h
  exact (Array.getElem?_eq_some_iff.1 h3).1
theorem Buf.below (h : Buf e W g n xs) (hb : Below W.heap.size W W') : Buf e W' g n xs := h.step (hb.block g h.lt)
theorem Buf.cell (h : Buf e W g n xs) (j : Nat) (hj : j < xs.length) : W.cell? ⟨g, j, none⟩ = some (.int .u8 (xs.getD j 0)) := by
  obtain ⟨h1, _, cur, h3, h4, h5⟩ := h
  rw [cell_of_row W g _ cur e (0, 0) h3]
  have := congrArg (fun l => l[j]?) h5
  simp only [List.getElem?_take, hj, if_true, bytesV, List.getElem?_map, List.getElem?_eq_getElem hj, Option.map_some, Array.getElem?_toList] at this
  rw [this]
  simp [List.getD_eq_getElem?_getD, hj]
theorem Buf.C (h : Buf e W g n xs) (hn : xs.length = n) : (Kd.int .u8).C W (some ⟨g, 0, none⟩) xs.length xs := by
  refine Kd.C_of_reads (d := (0 : Int)) (h1 := fun _ => rfl) ⟨rfl, by have := h.max; omega, fun _ => ⟨_, rfl, fun j hj => ?_⟩⟩
  have hc := h.cell j hj
  have he : (⟨g, 0, none⟩ : Addr).add j = ⟨g, j, none⟩ := by
    by_cases h0 : j = 0
    · subst h0; simp [Addr.add]
    · simp [Addr.add, h0]
  rw [he]
  exact hc
theorem Buf.copy {t t' ty o dLen dCap m c : Nat} {ad : Addr} (h : Buf e W g n xs) (ht : P.underlying t = some (.slice e)) (hinfo : (P.info? e).map (·.size) = some 1)
    (ho : o ≤ xs.length) (hlen : ys.length = min m dLen) (hfit : o + ys.length ≤ n) (hsrc : ∀ j : Nat, j < ys.length → W.cell? (ad.add j) = some (.int .u8 (ys.getD j 0))) :
    ∃ W1, (Builtin.copy_ #[t, t'] ty #[.slice (some ⟨g, o, none⟩) dLen dCap, .slice (some ad) m c]).run P W = .ok (goInt ((ys.length : Nat) : Int)) W1 ∧ Buf e W1 g n (laid xs o ys) ∧ W.grownBy W1 (some g) := by
  obtain ⟨hl, hmx, cur, hh, hcs, htk⟩ := h
  have hkl : (bytesV ys).length = ys.length := by simp
  have hr := run_copy_cells (P := P) W t t' ty e g o dLen dCap ad m c (bytesV ys) ht hinfo (by rw [hkl]; exact hlen) (fun j u hu => by
      rw [List.getElem?_map] at hu
      obtain ⟨y, hy, rfl⟩ := Option.map_eq_some_iff.1 hu
      obtain ⟨hj, rfl⟩ := List.getElem?_eq_some_iff.1 hy
      rw [hsrc j hj]
      simp [List.getD_eq_getElem?_getD, hj])
    (fun j hj => by rw [cell_of_row W g _ cur e (0, 0) hh]; simp; rw [hkl] at hj; omega) (fun j _ => blk_frozen hh _) (by intro u hu; obtain ⟨q, _, rfl⟩ := List.mem_map.1 hu; rfl)
  obtain ⟨cur', h3, h4, h5⟩ := setCells_row (bytesV ys) o W cur hh (by rw [hkl]; omega)
  obtain ⟨s1, s2, s3, s4⟩ := setCells_same g (bytesV ys) o W
  refine ⟨_, by rw [hr, hkl], ⟨?_, hmx, cur', h3, by rw [h4]; exact hcs, ?_⟩, ⟨s1, s2, s3, by rw [s4]; exact Nat.le_refl _, fun k _ hk => setCells_far _ _ k (fun he => hk (by rw [he]))⟩⟩
  · simp only [laid, List.length_append, List.length_take, List.length_drop]
    omega
  · have hLl : cur.toList.length = cur.size := Array.length_toList
    have hto : (bytesV xs).take o = cur.toList.take o := by rw [← htk, List.take_take, show min o xs.length = o by omega]
    have hR : bytesV (laid xs o ys) = (bytesV xs).take o ++ (bytesV ys ++ (bytesV xs).drop (o + ys.length)) := by simp [laid, bytesV, List.map_take, List.map_drop]
    rw [h5, hR, hto, hkl, List.append_assoc]
    by_cases hc : o + ys.length ≤ xs.length
    · have hln : (laid xs o ys).length = xs.length := laid_length _ _ _ hc
      have hEl : (bytesV ys).take (xs.length - o) = bytesV ys := List.take_of_length_le (by rw [hkl]; omega)
      rw [hln, ← htk, List.take_append, List.take_append, List.take_take, List.drop_take, List.length_take, hkl, hLl]
      rw [show min xs.length o = o by omega, show min o cur.size = o by omega, hEl, show xs.length - o - ys.length = xs.length - (o + ys.length) by omega]
    · have hd : (bytesV xs).drop (o + ys.length) = [] := List.drop_eq_nil_of_le (by simp; omega)
      have hln : (laid xs o ys).length = o + ys.length := by
        simp only [laid, List.length_append, List.length_take, List.length_drop]
        omega
      rw [hd, hln, List.append_nil, List.take_append, List.take_append, List.take_take, List.length_take, hkl, hLl]
      have e1 : o + ys.length - min o cur.size = ys.length := by omega
      rw [e1, List.take_of_length_le (by rw [hkl]; omega : (bytesV ys).length ≤ ys.length), show min (o + ys.length) o = o by omega]
      simp
end
theorem wpList_copy {W W1 : World} {ops : Array Oper} {rest : List Oper} {o : Oper} {a : Act} {Q : Exit → Act → World → Prop} (hgd : o.guard = none) (d s : Operand) (t t' : TypeId)
    (ho : o.op = .call { callee := .builtin .copy, args := #[d, s], argTypes := #[t, t'] }) (v u : Value) (hd : a.eval d = v) (hs : a.eval s = u) {v' : Value}
    (hr : (Builtin.copy_ #[t, t'] o.type #[v, u]).run P W = .ok v' W1) (h : wpList P ops Q rest (a.put o.dst v') W1) : wpList P ops Q (o :: rest) a W := by
  refine wpList_plain hgd fun K hK => ?_
  unfold Oper.wp
  simp [execOp, ho, resolve, invoke, builtin, hd, hs, hr, Result.andThen]
  exact hK _ _ h
theorem step_copy {W W1 : World} {ops : Array Oper} {o : Oper} {a : Act} {K : Act → World → Prop} {Q : Exit → Act → World → Prop} {E : Prop} (hgd : o.guard = none) (d s : Operand) (t t' : TypeId)
    (ho : o.op = .call { callee := .builtin .copy, args := #[d, s], argTypes := #[t, t'] }) (v u : Value) (hd : a.eval d = v) (hs : a.eval s = u) {v' : Value}
    (hr : (Builtin.copy_ #[t, t'] o.type #[v, u]).run P W = .ok v' W1) (hK : K (a.put o.dst v') W1) : if Region.wanted o (yielded ops a.tmps) = true then Oper.wp P o a W K Q else E := by
  have hw : Region.wanted o (yielded ops a.tmps) = true := by simp [Region.wanted, hgd]
  rw [if_pos hw]
  unfold Oper.wp
  simp [execOp, ho, resolve, invoke, builtin, hd, hs, hr, Result.andThen]
  exact hK
end Go.Proofs.YtjbjofmcmjojlabQ
end
section
namespace Go.Proofs.Ytjbjofmcmjojlab.Wk
open Go.RowKit Go.Proofs.YtjbjofmcmjojlabW.PrintWords Go.Proofs.YtjbjofmcmjojlabW.PrintLast Go.Proofs.YtjbjofmcmjojlabW.PrintMore
attribute [local go_sem] max2_int min2_int max_two min_two max_three min_three max_four min_four
set_option linter.unusedVariables false
set_option linter.unusedSimpArgs false
def errW : Option Int → Value
  | none => .nilIface
  | some c => .iface 0 (.int .i64 c)
theorem errW_none : errW none = .nilIface := rfl
theorem errW_some (c : Int) : errW (some c) = .iface 0 (.int .i64 c) := rfl
theorem info3 : (Try.prog.info? 3).map (fun i => (i.zero, i.size, i.bytes)) = some (some (.int .i64 0), 1, 8) := by kernel_rfl
def rd_L1 (xs : List (List Int)) (i : Int) : (List Int) := xs.getD i.toNat ([] : List Int)
theorem at_L1 {w : World} {A : Option Addr} {n : Nat} {xs : List (List Int)} (h : Kd.C (Kd.slice 3 (Kd.int .i64)) w A n xs) (i : Int) (h0 : 0 ≤ i) (h1 : i < n) : ∃ ad A0 c0, A = some ad ∧ w.cell? (ad.add i.toNat) = some (.slice A0 (rd_L1 xs i).length c0) ∧ (rd_L1 xs i).length ≤ c0 ∧ (Kd.int .i64).C w A0 (rd_L1 xs i).length (rd_L1 xs i) := by
  obtain ⟨ad, c, e, _, hK, hc0⟩ := Kd.C_get h ([] : List Int) i h0 h1
  have hc : ∀ j u, c[j]? = some u → w.cell? (ad.add (i.toNat * 1 + j)) = some u := hc0
  obtain ⟨A0, c0, rfl, l0, g0⟩ := hK
  exact ⟨ad, A0, c0, e, by have hq := hc 0 _ rfl; rwa [Nat.mul_one, Nat.add_zero] at hq, l0, g0⟩
def rd_L3 (xs : List (List Int)) (i : Int) : (List Int) := xs.getD i.toNat ([] : List Int)
end Go.Proofs.Ytjbjofmcmjojlab.Wk
end
section
namespace Go.Proofs.Ytjbjofmcmjojlab.Wk
open Go.RowKit Go.Proofs.YtjbjofmcmjojlabW.PrintWords Go.Proofs.YtjbjofmcmjojlabW.PrintLast Go.Proofs.YtjbjofmcmjojlabW.PrintMore
attribute [local go_sem] max2_int min2_int max_two min_two max_three min_three max_four min_four
set_option linter.unusedVariables false
set_option linter.unusedSimpArgs false
def idxFrom (p : Int → Bool) (l : List Int) : Nat → Nat → Int
  | 0, _ => -1
  | d + 1, i => if p (rd l i) then i else idxFrom p l d (i + 1)
theorem idxFrom_any_aux (p : Int → Bool) (l : List Int) (d : Nat) : ∀ i, l.length - i = d → decide (0 ≤ idxFrom p l d i) = (l.drop i).any p := by
  induction d with
  | zero => intro i h; rw [List.drop_eq_nil_of_le (by omega)]; simp [idxFrom]
  | succ d ih =>
    intro i h
    have hi : i < l.length := by omega
    rw [List.drop_eq_getElem_cons hi, List.any_cons, ← ih (i + 1) (by omega), idxFrom]
    have e : rd l (i : Int) = l[i] := by simp [rd, hi]
    rw [e]
    by_cases hp : p l[i] = true
    · rw [if_pos hp, hp]; simp
    · rw [if_neg hp]; simp only [Bool.not_eq_true] at hp; rw [hp]; simp
theorem idxFrom_any (p : Int → Bool) (l : List Int) : decide (0 ≤ idxFrom p l l.length 0) = l.any p := by
  have := idxFrom_any_aux p l l.length 0 (by omega)
  simpa using this
def PredAt (g : Nat) (C : Array Value) (p : Int → Bool) (w : World) : Prop :=
  (∀ args w, Sem.run Try.prog (callFunc g args) w = .ok (.enter g args) w) ∧
  ∀ (x : Int) (n : Nat), Calls Try.prog g (#[.int .i64 x] ++ C) (w.drewN n) fun e w' => e = .returned (.bool (p x)) ∧ Drawn0 w w'
set_option maxHeartbeats 800000 in
theorem IndexFunc_int (g : Nat) (C : Array Value) (p : Int → Bool)
    (A0 : Option Addr) (c0 : Nat) (l0 : List Int) (w : World) (hp : PredAt g C p w) (hr0 : Kd.C (Kd.int .i64) w A0 l0.length l0) (hm : l0.length ≤ maxLen) :
    Calls Try.prog 58 #[.slice A0 l0.length c0, .func (.func g) #[] C] w fun e w' => e = .returned (.int .i64 (idxFrom p l0 l0.length 0)) ∧ Drawn0 w w' := by
  have HR0 := Aside0.mk hr0
  clear hr0
  unfold maxLen at hm
  go_enter Try.func58, Try.ntmps58
  go_wp2
  go_loopw [5, 8] (fun _ i wr => ∃ k : Nat, k ≤ l0.length ∧ i = .int .i64 k ∧ Aside0 (idxFrom p l0 l0.length 0 = idxFrom p l0 (l0.length - k) k) ∧ Drawn0 w wr) (fun _ i _ => l0.length - (intOf i).toNat)
  case atStart => exact ⟨0, Nat.zero_le _, rfl, ⟨rfl⟩, Drawn0.refl _⟩
  case round =>
    obtain ⟨k, hk, rfl, HE, ⟨nd, rfl⟩⟩ := hrel
    by_cases hlt : k < l0.length
    · obtain ⟨ad, e1, hx0⟩ := Kd.at_int HR0.out k (by omega) (by omega)
      cases e1
      have hx : w.cell? (ad.add k) = some (Value.int IntKind.i64 (rd l0 k)) := by simpa using hx0
      clear hx0
      have hq := hp.2 (rd l0 k) nd
      have hcf := hp.1
      have HN : Aside0 (idxFrom p l0 (l0.length - k) k = if p (rd l0 k) then (k : Int) else idxFrom p l0 (l0.length - (k + 1)) (k + 1)) := ⟨by
        rw [show l0.length - k = (l0.length - (k + 1)) + 1 by omega, idxFrom]⟩
      generalize p (rd l0 k) = b at hq HN
      have HQ := Aside0.mk hq
      clear hq
      cases b with
      | true =>
        go_wp2_with (refine HQ.out.mono ?_; rintro e w' ⟨rfl, ⟨n2, rfl⟩⟩)
        go_ret
        exact ⟨by rw [HE.out, HN.out]; rfl, by first | exact Drawn0.refl _ | (exact ⟨_, rfl⟩)⟩
      | false =>
        go_wp2_with (refine HQ.out.mono ?_; rintro e w' ⟨rfl, ⟨n2, rfl⟩⟩)
        go_roundw
        case rel => exact ⟨k + 1, by omega, by go_num, ⟨by rw [HE.out, HN.out]; simp⟩, ⟨_, rfl⟩⟩
        case measure => simp [intOf]; omega
    · have HN : Aside0 (idxFrom p l0 (l0.length - k) k = -1) := ⟨by rw [show l0.length - k = 0 by omega, idxFrom]⟩
      go_wp2
      go_ret
      exact ⟨by rw [HE.out, HN.out]; rfl, ⟨_, rfl⟩⟩
end Go.Proofs.Ytjbjofmcmjojlab.Wk
end
section
namespace Go.Proofs.Ytjbjofmcmjojlab.Wk
open Go.RowKit Go.Proofs.YtjbjofmcmjojlabW.PrintWords Go.Proofs.YtjbjofmcmjojlabW.PrintLast Go.Proofs.YtjbjofmcmjojlabW.PrintMore
attribute [local go_sem] max2_int min2_int max_two min_two max_three min_three max_four min_four
set_option linter.unusedVariables false
set_option linter.unusedSimpArgs false
set_option maxHeartbeats 800000 in
theorem ContainsFunc_int (g : Nat) (C : Array Value) (p : Int → Bool)
    (A0 : Option Addr) (c0 : Nat) (l0 : List Int) (w : World) (hp : PredAt g C p w) (hr0 : Kd.C (Kd.int .i64) w A0 l0.length l0) (hm : l0.length ≤ maxLen) :
    Calls Try.prog 52 #[.slice A0 l0.length c0, .func (.func g) #[] C] w fun e w' => e = .returned (.bool (l0.any p)) ∧ Drawn0 w w' := by
  have HR0 := Aside0.mk hr0
  clear hr0
  have HP := Aside0.mk hp
  clear hp
  have HM := Aside0.mk hm
  clear hm
  go_enter Try.func52, Try.ntmps52
  go_wp2_with (go_at_call 58; refine (IndexFunc_int g C p _ _ l0 _ HP.out HR0.out HM.out).mono ?_; rintro e w' ⟨rfl, ⟨n2, rfl⟩⟩)
  go_ret
  exact ⟨by rw [← idxFrom_any]; rfl, ⟨_, rfl⟩⟩
end Go.Proofs.Ytjbjofmcmjojlab.Wk
end
section
namespace Go.Proofs.Ytjbjofmcmjojlab.Wk
open Go.RowKit Go.Proofs.YtjbjofmcmjojlabW.PrintWords Go.Proofs.YtjbjofmcmjojlabW.PrintLast Go.Proofs.YtjbjofmcmjojlabW.PrintMore
attribute [local go_sem] max2_int min2_int max_two min_two max_three min_three max_four min_four
set_option linter.unusedVariables false
set_option linter.unusedSimpArgs false
def slices_Index_int_int.l0 : Nat → List Int → Int → Int → Int → Option (Int)
  | 0, _, _, _, _ => none
  | k + 1, x0, x1, x7, x8 => if x8 < x7 then (if 0 ≤ x8 then (if x8 < (x0.length : Int) then (if x1 = (rd x0 x8) then (some x8) else (slices_Index_int_int.l0 k x0 x1 x7 (wrap64 (x8 + 1)))) else (none)) else (none)) else (some (-1))
def slices_Index_int_int.f (k : Nat) (l0 : List Int) (a1 : Int) : Option (Int) := slices_Index_int_int.l0 k l0 a1 (l0.length : Int) 0
set_option maxHeartbeats 8000000 in
set_option maxRecDepth 100000 in
theorem slices_Index_int_int.calls (k : Nat) (A0 : Option Addr) (c0 : Nat) (l0 : List Int) (a1 : Int) (r : Int) (w : World) (hr0 : Kd.C (Kd.int .i64) w A0 l0.length l0) (hc0 : l0.length ≤ c0) (h : slices_Index_int_int.f k l0 a1 = some r) :
    Calls Try.prog 59 #[.slice A0 l0.length c0, .int .i64 a1] w fun e w' => e = .returned (.int .i64 r) ∧ Drawn0 w w' := by
  have HR0 := Aside0.mk hr0
  have HC0 := Aside0.mk hc0
  clear hr0 hc0
  have H : (slices_Index_int_int.l0 k l0 a1 (l0.length : Int) 0) = some r := h
  clear h
  have H' := Aside0.mk H
  clear H
  go_enter Try.func59, Try.ntmps59
  go_wp2
  go_loopg [8] k (fun kq v8 w' => ∃ (x8_1 : Int), v8 = .int .i64 x8_1 ∧ Aside0 (slices_Index_int_int.l0 kq l0 a1 (l0.length : Int) x8_1 = some r) ∧ Aside0 (kq ≤ k) ∧ Drawn0 w w')
  case atStart => exact ⟨(0), (by first | rfl | (simp; done) | (simp [*]; done)), H', ⟨Nat.le_refl _⟩, by repeat (first | exact Drawn0.refl _ | apply Drawn0.step)⟩
  case round =>
    clear H'
    try clear p2
    obtain ⟨x8_1, rfl, HA, HK1, ⟨m1, rfl⟩⟩ := hrel
    cases gk with
    | zero => exact absurd HA.out (by simp [slices_Index_int_int.l0])
    | succ k1 =>
      have H := HA.out
      clear HA
      simp only [slices_Index_int_int.l0] at H
      by_cases c3 : x8_1 < (l0.length : Int)
      · rw [if_pos c3] at H
        have c3b0 : decide (x8_1 < (l0.length : Int)) = true := decide_eq_true c3
        clear c3
        by_cases c4 : 0 ≤ x8_1
        · rw [if_pos c4] at H
          have c4b0 : decide (0 ≤ x8_1) = true := decide_eq_true c4
          clear c4
          by_cases c5 : x8_1 < (l0.length : Int)
          · rw [if_pos c5] at H
            have c5b0 : decide (x8_1 < (l0.length : Int)) = true := decide_eq_true c5
            clear c5
            by_cases c6 : a1 = (rd l0 x8_1)
            · rw [if_pos c6] at H
              have c6b0 : (a1 == (rd l0 x8_1)) = true := beq_iff_eq.mpr c6
              have c6b1 : (a1 != (rd l0 x8_1)) = false := bne_eq_false_iff_eq.mpr c6
              clear c6
              obtain rfl := Option.some.inj H
              have p101 : 0 ≤ (x8_1 : Int) := of_decide_eq_true (by first | (with_reducible assumption) | assumption)
              have q101 : x8_1 < (l0.length : Int) := of_decide_eq_true (by first | (with_reducible assumption) | assumption)
              obtain ⟨ad101, e101, hx101_0⟩ := Kd.at_int HR0.out x8_1 p101 q101
              cases e101
              replace p101 := eq_true p101
              replace q101 := eq_true q101
              go_wp2
              go_ret
              exact ⟨by first | rfl | (simp; done) | (simp [*]; done), by repeat (first | exact Drawn0.refl _ | apply Drawn0.step)⟩
            · rw [if_neg c6] at H
              have c6b0 : (a1 == (rd l0 x8_1)) = false := beq_eq_false_iff_ne.mpr c6
              have c6b1 : (a1 != (rd l0 x8_1)) = true := bne_iff_ne.mpr c6
              have H' := Aside0.mk H
              clear H
              have p101 : 0 ≤ (x8_1 : Int) := of_decide_eq_true (by first | (with_reducible assumption) | assumption)
              have q101 : x8_1 < (l0.length : Int) := of_decide_eq_true (by first | (with_reducible assumption) | assumption)
              obtain ⟨ad101, e101, hx101_0⟩ := Kd.at_int HR0.out x8_1 p101 q101
              cases e101
              replace p101 := eq_true p101
              replace q101 := eq_true q101
              go_wp2
              go_roundg k1
              case measure => have := HK1.out; omega
              case rel => exact ⟨(wrap64 (x8_1 + 1)), (by first | rfl | (simp; done) | (simp [*]; done)), H', ⟨by have := HK1.out; omega⟩, by repeat (first | exact Drawn0.refl _ | apply Drawn0.step)⟩
          · rw [if_neg c5] at H
            exact absurd H (by simp)
        · rw [if_neg c4] at H
          exact absurd H (by simp)
      · rw [if_neg c3] at H
        have c3b0 : decide (x8_1 < (l0.length : Int)) = false := decide_eq_false c3
        clear c3
        obtain rfl := Option.some.inj H
        go_wp2
        go_ret
        exact ⟨by first | rfl | (simp; done) | (simp [*]; done), by repeat (first | exact Drawn0.refl _ | apply Drawn0.step)⟩
end Go.Proofs.Ytjbjofmcmjojlab.Wk
end
section
namespace Go.Proofs.Ytjbjofmcmjojlab.Wk
open Go.RowKit Go.Proofs.YtjbjofmcmjojlabW.PrintWords Go.Proofs.YtjbjofmcmjojlabW.PrintLast Go.Proofs.YtjbjofmcmjojlabW.PrintMore
attribute [local go_sem] max2_int min2_int max_two min_two max_three min_three max_four min_four
set_option linter.unusedVariables false
set_option linter.unusedSimpArgs false
def slices_Contains_int_int.f (k : Nat) (l0 : List Int) (a1 : Int) : Option (Bool) := (slices_Index_int_int.f k l0 a1).bind fun t102 => (some (decide (t102 ≥ 0)))
set_option maxHeartbeats 8000000 in
set_option maxRecDepth 100000 in
theorem slices_Contains_int_int.calls (k : Nat) (A0 : Option Addr) (c0 : Nat) (l0 : List Int) (a1 : Int) (r : Bool) (w : World) (hr0 : Kd.C (Kd.int .i64) w A0 l0.length l0) (hc0 : l0.length ≤ c0) (h : slices_Contains_int_int.f k l0 a1 = some r) :
    Calls Try.prog 56 #[.slice A0 l0.length c0, .int .i64 a1] w fun e w' => e = .returned (.bool r) ∧ Drawn0 w w' := by
  have HR0 := Aside0.mk hr0
  have HC0 := Aside0.mk hc0
  clear hr0 hc0
  have H : ((slices_Index_int_int.f k l0 a1).bind fun t102 => (some (decide (t102 ≥ 0)))) = some r := h
  clear h
  replace H := Option.bind_eq_some_iff.mp H
  obtain ⟨t102, A30, H⟩ := H
  replace H : (some (decide (t102 ≥ 0))) = some r := H
  have A3 := Aside0.mk A30
  clear A30
  obtain rfl := Option.some.inj H
  go_enter Try.func56, Try.ntmps56
  go_wp2_with (first | ((with_reducible refine gate_callee (f := 59) rfl ?_); refine goesL_ (some 7) rfl rfl Try.func59 (by kernel_rfl) rfl #[.slice A0 l0.length c0, .int .i64 a1] rfl (by (try simp only [List.map_toArray, List.map_cons, List.map_nil]); first | done | rfl | (simp only [List.length_drop, List.length_take]; rfl)) ?_; (with_reducible refine (slices_Index_int_int.calls k _ _ l0 a1 t102 _ ?side1 ?side2 A3.out).mono ?_); (case side1 => repeat (first | exact HR0.out | (with_reducible refine Kd.C_alloc ?_ _) | (with_reducible refine Kd.C_drewN ?_ _) | (with_reducible refine Kd.C_drew ?_))); (case side2 => exact HC0.out); rintro e w' ⟨rfl, ⟨nd, rfl⟩⟩; refine ⟨_, rfl, ?_⟩))
  go_ret
  exact ⟨by first | rfl | (simp; done) | (simp [*]; done), by repeat (first | exact Drawn0.refl _ | apply Drawn0.step)⟩
theorem Contains_int_total (l : List Int) (x : Int) (hm : l.length ≤ maxLen) : slices_Contains_int_int.f (l.length + 1) l x = some (l.contains x) := by
  unfold maxLen at hm
  have aux : ∀ d k i : Nat, l.length - i = d → d < k → i ≤ l.length → slices_Index_int_int.l0 k l x (l.length : Int) i = some (idxFrom (fun y => y == x) l d i) := by
    intro d
    induction d with
    | zero =>
      intro k i h hk hi
      obtain ⟨k, rfl⟩ : ∃ m, k = m + 1 := ⟨k - 1, by omega⟩
      simp only [slices_Index_int_int.l0, idxFrom]
      rw [if_neg (by omega)]
    | succ d ih =>
      intro k i h hk hi
      obtain ⟨k, rfl⟩ : ∃ m, k = m + 1 := ⟨k - 1, by omega⟩
      simp only [slices_Index_int_int.l0, idxFrom]
      rw [if_pos (by omega), if_pos (by omega), if_pos (by omega)]
      have e : wrap64 ((i : Int) + 1) = ((i + 1 : Nat) : Int) := by unfold wrap64; omega
      rw [e, ih k (i + 1) (by omega) (by omega) (by omega)]
      by_cases hx : x = rd l i
      · rw [if_pos hx, if_pos (by simp [hx])]
      · rw [if_neg hx, if_neg (by simp; exact fun h => hx h.symm)]
  unfold slices_Contains_int_int.f slices_Index_int_int.f
  have h0 : slices_Index_int_int.l0 (l.length + 1) l x (l.length : Int) 0 = _ := aux l.length (l.length + 1) 0 (by omega) (by omega) (by omega)
  rw [h0]
  simp only [Option.bind_some]
  have := idxFrom_any (fun y => y == x) l
  rw [show (decide (idxFrom (fun y => y == x) l l.length 0 ≥ 0)) = decide (0 ≤ idxFrom (fun y => y == x) l l.length 0) from rfl, this]
  congr 1
  exact List.any_beq'
end Go.Proofs.Ytjbjofmcmjojlab.Wk
end
section
namespace Go.Proofs.Ytjbjofmcmjojlab.Wk
open Go.RowKit Go.Proofs.YtjbjofmcmjojlabW.PrintWords Go.Proofs.YtjbjofmcmjojlabW.PrintLast Go.Proofs.YtjbjofmcmjojlabW.PrintMore
attribute [local go_sem] max2_int min2_int max_two min_two max_three min_three max_four min_four
set_option linter.unusedVariables false
set_option linter.unusedSimpArgs false
def badDim (x : Int) : Bool := decide (x < 0) || decide (1048576 < x)
theorem pred27 (w : World) : PredAt 55 #[] badDim w := by
  refine ⟨fun _ _ => rfl, fun x n => ?_⟩
  by_cases h : x < 0
  · go_enter Try.func55, Try.ntmps55
    go_wp2
    go_ret
    exact ⟨by simp [badDim, h], ⟨_, rfl⟩⟩
  · have h1 : decide (x < 0) = false := by simpa using h
    go_enter Try.func55, Try.ntmps55
    go_wp2
    go_ret
    exact ⟨by simp [badDim, h1], ⟨_, rfl⟩⟩
def prodLoop (l : List Int) : Nat → Nat → Int → Int × Int
  | 0, _, n => (n, 0)
  | d + 1, i, n => if n * rd l i > 1048576 then (0, 3) else prodLoop l d (i + 1) (n * rd l i)
def space_Elements.f (l0 : List Int) : Option (Int × Int) :=
  some (if 4 < l0.length ∨ l0.any badDim = true then (0, 2) else if l0.contains 0 = true then (0, 0) else prodLoop l0 l0.length 0 1)
theorem good_rd {l : List Int} (h : l.any badDim = false) (i : Nat) (hi : i < l.length) : 0 ≤ rd l i ∧ rd l i ≤ 1048576 := by
  have e : rd l (i : Int) = l[i] := by simp [rd, hi]
  rw [e]
  have := List.any_eq_false.1 h l[i] (List.getElem_mem hi)
  simp [badDim] at this
  omega
set_option maxHeartbeats 1000000 in
theorem space_Elements.calls (A0 : Option Addr) (c0 : Nat) (l0 : List Int) (r1 : Int) (r2 : Int) (w : World) (hr0 : Kd.C (Kd.int .i64) w A0 l0.length l0) (hc0 : l0.length ≤ c0) (h : space_Elements.f l0 = some (r1, r2)) :
    Calls Try.prog 38 #[.slice A0 l0.length c0] w fun e w' => e = .returned (.tuple #[.int .i64 r1, .int .i64 r2]) ∧ Drawn0 w w' := by
  unfold space_Elements.f at h
  replace h := Option.some.inj h
  have HR0 := Aside0.mk hr0
  have HC0 := Aside0.mk hc0
  clear hr0 hc0
  by_cases h4 : 4 < l0.length
  · rw [if_pos (.inl h4)] at h
    cases h
    have h4' : decide ((l0.length : Int) > 4) = true := by simp; omega
    have h4'' : decide (4 < l0.length) = true := by simp; omega
    go_enter Try.func38, Try.ntmps38
    go_wp2
    go_ret2
    exact ⟨rfl, ⟨0, rfl⟩⟩
  · have hm : l0.length ≤ maxLen := by unfold maxLen; omega
    have HM := Aside0.mk hm
    clear hm
    have h4' : decide ((l0.length : Int) > 4) = false := by simp; omega
    have h4'' : decide (4 < l0.length) = false := by simp; omega
    by_cases hb : l0.any badDim = true
    · rw [if_pos (.inr hb)] at h
      cases h
      have HB := Aside0.mk hb
      clear hb
      go_enter Try.func38, Try.ntmps38
      go_wp2_with (go_at_call 52; refine (ContainsFunc_int 55 #[] badDim _ _ l0 _ (pred27 _) HR0.out HM.out).mono ?_; rintro e w' ⟨rfl, ⟨n2, rfl⟩⟩; rw [HB.out])
      go_ret2
      exact ⟨rfl, ⟨_, rfl⟩⟩
    · have hb : l0.any badDim = false := by simpa using hb
      have HB := Aside0.mk hb
      clear hb
      have HC := Aside0.mk (Contains_int_total l0 0 HM.out)
      rw [if_neg (by rw [HB.out]; simp; omega)] at h
      by_cases hz : l0.contains 0 = true
      · rw [if_pos hz] at h
        cases h
        have HZ := Aside0.mk hz
        clear hz
        go_enter Try.func38, Try.ntmps38
        go_wp2_with (first
          | (go_at_call 52; refine (ContainsFunc_int 55 #[] badDim _ _ l0 _ (pred27 _) HR0.out HM.out).mono ?_; rintro e w' ⟨rfl, ⟨n2, rfl⟩⟩; rw [HB.out])
          | (go_at_call 56; refine (slices_Contains_int_int.calls (l0.length + 1) _ _ l0 0 _ _ (Kd.C_drewN HR0.out _) HC0.out HC.out).mono ?_; rintro e w' ⟨rfl, ⟨n3, rfl⟩⟩; rw [HZ.out]))
        go_ret2
        exact ⟨rfl, ⟨_, rfl⟩⟩
      · have hz : l0.contains 0 = false := by simpa using hz
        have HZ := Aside0.mk hz
        clear hz
        rw [HZ.out, if_neg (by simp)] at h
        have HH := Aside0.mk h
        clear h
        go_enter Try.func38, Try.ntmps38
        go_wp2_with (first
          | (go_at_call 52; refine (ContainsFunc_int 55 #[] badDim _ _ l0 _ (pred27 _) HR0.out HM.out).mono ?_; rintro e w' ⟨rfl, ⟨n2, rfl⟩⟩; rw [HB.out])
          | (go_at_call 56; refine (slices_Contains_int_int.calls (l0.length + 1) _ _ l0 0 _ _ (Kd.C_drewN HR0.out _) HC0.out HC.out).mono ?_; rintro e w' ⟨rfl, ⟨n3, rfl⟩⟩; rw [HZ.out]))
        go_loopw [4, 18] (fun v i wr => ∃ (k : Nat) (n : Int), k ≤ l0.length ∧ i = .int .i64 k ∧ v = .int .i64 n ∧ 0 ≤ n ∧ n ≤ 1048576 ∧ Aside0 (prodLoop l0 (l0.length - k) k n = (r1, r2)) ∧ Drawn0 w wr) (fun _ i _ => l0.length - (intOf i).toNat)
        case atStart => exact ⟨0, 1, Nat.zero_le _, rfl, rfl, by omega, by omega, HH, ⟨_, rfl⟩⟩
        case round =>
          obtain ⟨k, n, hk, rfl, rfl, hn0, hn1, HE, ⟨nd, rfl⟩⟩ := hrel
          by_cases hlt : k < l0.length
          · obtain ⟨ad, e1, hx0⟩ := Kd.at_int HR0.out k (by omega) (by omega)
            cases e1
            have hx : w.cell? (ad.add k) = some (Value.int IntKind.i64 (rd l0 k)) := by simpa using hx0
            clear hx0
            have hg := good_rd HB.out k hlt
            have HN : Aside0 ((if n * rd l0 k > 1048576 then (0, 3) else prodLoop l0 (l0.length - (k + 1)) (k + 1) (n * rd l0 k)) = (r1, r2)) := ⟨by
              rw [← HE.out, show l0.length - k = (l0.length - (k + 1)) + 1 by omega, prodLoop]⟩
            generalize rd l0 k = y at hx HN hg
            have hy1 : 0 ≤ n * y := Int.mul_nonneg hn0 hg.1
            have hy2 : n * y ≤ 1048576 * 1048576 := Int.mul_le_mul hn1 hg.2 hg.1 (by omega)
            have hy3 : wrap64 (n * y) = n * y := by unfold wrap64; omega
            by_cases hbig : n * y > 1048576
            · have HN' := HN.out
              rw [if_pos hbig] at HN'
              cases HN'
              go_wp2
              go_ret2
              exact ⟨rfl, ⟨_, rfl⟩⟩
            · have HN' := HN.out
              rw [if_neg hbig] at HN'
              have HN2 := Aside0.mk HN'
              clear HN HN'
              go_wp2
              go_roundw
              case rel => exact ⟨k + 1, n * y, by omega, by go_num, rfl, hy1, by omega, HN2, ⟨_, rfl⟩⟩
              case measure => simp [intOf]; omega
          · have HN : Aside0 ((n, (0 : Int)) = (r1, r2)) := ⟨by rw [← HE.out, show l0.length - k = 0 by omega, prodLoop]⟩
            have HN' := HN.out
            cases HN'
            go_wp2
            go_ret2
            exact ⟨rfl, ⟨_, rfl⟩⟩
end Go.Proofs.Ytjbjofmcmjojlab.Wk
end
section
namespace Go.Proofs.Ytjbjofmcmjojlab.Wk
open Go.RowKit Go.Proofs.YtjbjofmcmjojlabW.PrintWords Go.Proofs.YtjbjofmcmjojlabW.PrintLast Go.Proofs.YtjbjofmcmjojlabW.PrintMore
attribute [local go_sem] max2_int min2_int max_two min_two max_three min_three max_four min_four
set_option linter.unusedVariables false
set_option linter.unusedSimpArgs false
def badShape (x : Int) : Bool := decide (x < 1) || decide (1048576 < x)
theorem predFit (w : World) : PredAt 53 #[] badShape w := by
  refine ⟨fun _ _ => rfl, fun x n => ?_⟩
  by_cases h : x < 1
  · go_enter Try.func53, Try.ntmps53
    go_wp2
    go_ret
    exact ⟨by simp [badShape, h], ⟨_, rfl⟩⟩
  · have h1 : decide (x < 1) = false := by simpa using h
    go_enter Try.func53, Try.ntmps53
    go_wp2
    go_ret
    exact ⟨by simp [badShape, h1], ⟨_, rfl⟩⟩
def grid_fit.f (l0 l1 : List Int) : Option Int :=
  (space_Elements.f l0).bind fun a => if a.2 = 0 then (if l1.length = l0.length then (if l1.length ≤ maxLen then (if l1.any badShape = true then some 2 else (space_Elements.f l1).bind fun b => some b.2) else none) else some 2) else some a.2
set_option maxHeartbeats 1000000 in
theorem grid_fit.calls (A0 : Option Addr) (c0 : Nat) (l0 : List Int) (A1 : Option Addr) (c1 : Nat) (l1 : List Int) (r : Int) (w : World) (hr0 : Kd.C (Kd.int .i64) w A0 l0.length l0) (hc0 : l0.length ≤ c0) (hr1 : Kd.C (Kd.int .i64) w A1 l1.length l1) (hc1 : l1.length ≤ c1) (h : grid_fit.f l0 l1 = some r) :
    Calls Try.prog 33 #[.slice A0 l0.length c0, .slice A1 l1.length c1] w fun e w' => e = .returned (.int .i64 r) ∧ Drawn0 w w' := by
  unfold grid_fit.f at h
  replace h := Option.bind_eq_some_iff.mp h
  obtain ⟨⟨n, e⟩, ha, h⟩ := h
  have HA := Aside0.mk ha
  have HR0 := Aside0.mk hr0
  have HC0 := Aside0.mk hc0
  have HR1 := Aside0.mk hr1
  have HC1 := Aside0.mk hc1
  clear ha hr0 hc0 hr1 hc1
  simp only at h
  by_cases he : e = 0
  · subst he
    rw [if_pos rfl] at h
    by_cases hl : l1.length = l0.length
    · rw [if_pos hl] at h
      by_cases hm : l1.length ≤ maxLen
      case neg => rw [if_neg hm] at h; cases h
      rw [if_pos hm] at h
      have e1 : ((l1.length : Int) != (l0.length : Int)) = false := by simp [hl]
      have e2 : (l1.length != l0.length) = false := by simp [hl]
      have e3 : ((l1.length : Int) == (l0.length : Int)) = true := by simp [hl]
      have HM := Aside0.mk hm
      clear hl hm
      cases hb : l1.any badShape with
      | true =>
        have HB := Aside0.mk hb
        rw [HB.out, if_pos rfl] at h
        cases h
        clear hb
        go_enter Try.func33, Try.ntmps33
        go_wp2_with (first
          | (go_at_call 38; refine (space_Elements.calls _ _ l0 n 0 _ HR0.out HC0.out HA.out).mono ?_; rintro e_ w1 ⟨rfl, ⟨n1, rfl⟩⟩)
          | (go_at_call 52; refine (ContainsFunc_int 53 #[] badShape _ _ l1 _ (predFit _) (Kd.C_drewN HR1.out _) HM.out).mono ?_; rintro e_ w' ⟨rfl, ⟨n2, rfl⟩⟩; rw [HB.out]))
        go_ret
        exact ⟨rfl, by first | exact Drawn0.refl _ | exact ⟨_, rfl⟩⟩
      | false =>
        have HB := Aside0.mk hb
        rw [HB.out, if_neg (by simp)] at h
        replace h := Option.bind_eq_some_iff.mp h
        obtain ⟨⟨n2, e2⟩, hE, h⟩ := h
        cases h
        have HE := Aside0.mk hE
        clear hb hE
        go_enter Try.func33, Try.ntmps33
        go_upto_region 4 with (go_at_call 38; refine (space_Elements.calls _ _ l0 n 0 _ HR0.out HC0.out HA.out).mono ?_; rintro e_ w1 ⟨rfl, ⟨n1, rfl⟩⟩)
        go_upto_region 6 with (go_at_call 52; refine (ContainsFunc_int 53 #[] badShape _ _ l1 _ (predFit _) (Kd.C_drewN HR1.out _) HM.out).mono ?_; rintro e_ w' ⟨rfl, ⟨n2, rfl⟩⟩; rw [HB.out])
        go_wp2_with (go_at_call 38; refine (space_Elements.calls _ _ l1 _ _ _ (by repeat (first | exact HR1.out | refine Kd.C_drewN ?_ _)) HC1.out HE.out).mono ?_; rintro e_ w1 ⟨rfl, ⟨n3, rfl⟩⟩)
        go_ret
        exact ⟨rfl, by first | exact Drawn0.refl _ | exact ⟨_, rfl⟩⟩
    · rw [if_neg hl] at h
      cases h
      have e1 : ((l1.length : Int) != (l0.length : Int)) = true := by simpa using fun h => hl (by omega)
      have e2 : (l1.length != l0.length) = true := by simpa using hl
      have e3 : ((l1.length : Int) == (l0.length : Int)) = false := by simpa using fun h => hl (by omega)
      clear hl
      go_enter Try.func33, Try.ntmps33
      go_wp2_with (go_at_call 38; refine (space_Elements.calls _ _ l0 n 0 _ HR0.out HC0.out HA.out).mono ?_; rintro e_ w1 ⟨rfl, ⟨n1, rfl⟩⟩)
      go_ret
      exact ⟨rfl, by first | exact Drawn0.refl _ | exact ⟨_, rfl⟩⟩
  · rw [if_neg he] at h
    cases h
    have he1 : (r == 0) = false := by simpa using he
    have he2 : (r != 0) = true := by simpa using he
    go_enter Try.func33, Try.ntmps33
    go_wp2_with (go_at_call 38; refine (space_Elements.calls _ _ l0 n r _ HR0.out HC0.out HA.out).mono ?_; rintro e_ w1 ⟨rfl, ⟨n1, rfl⟩⟩)
    go_ret
    exact ⟨rfl, by first | exact Drawn0.refl _ | exact ⟨_, rfl⟩⟩
end Go.Proofs.Ytjbjofmcmjojlab.Wk
end
section
namespace Go.Proofs.Ytjbjofmcmjojlab.Wk
open Go.RowKit Go.Proofs.YtjbjofmcmjojlabW.PrintWords Go.Proofs.YtjbjofmcmjojlabW.PrintLast Go.Proofs.YtjbjofmcmjojlabW.PrintMore
attribute [local go_sem] max2_int min2_int max_two min_two max_three min_three max_four min_four
set_option linter.unusedVariables false
set_option linter.unusedSimpArgs false
def negCoord (x : Int) : Bool := decide (x < 0)
theorem predRight (w : World) : PredAt 54 #[] negCoord w := by
  refine ⟨fun _ _ => rfl, fun x n => ?_⟩
  go_enter Try.func54, Try.ntmps54
  go_wp2
  go_ret
  exact ⟨rfl, ⟨_, rfl⟩⟩
def grid_right.f (l0 : List Int) (a1 : Int) : Option Bool := if l0.length ≤ maxLen then some (decide ((l0.length : Int) = a1) && !l0.any negCoord) else none
set_option maxHeartbeats 1000000 in
theorem grid_right.calls (A0 : Option Addr) (c0 : Nat) (l0 : List Int) (a1 : Int) (r : Bool) (w : World) (hr0 : Kd.C (Kd.int .i64) w A0 l0.length l0) (hc0 : l0.length ≤ c0) (h : grid_right.f l0 a1 = some r) :
    Calls Try.prog 34 #[.slice A0 l0.length c0, .int .i64 a1] w fun e w' => e = .returned (.bool r) ∧ Drawn0 w w' := by
  unfold grid_right.f at h
  by_cases hm : l0.length ≤ maxLen
  case neg => rw [if_neg hm] at h; cases h
  rw [if_pos hm] at h
  replace h := Option.some.inj h
  have HR0 := Aside0.mk hr0
  have HM := Aside0.mk hm
  clear hr0 hm
  by_cases hl : (l0.length : Int) = a1
  · have e1 : ((l0.length : Int) == a1) = true := by simpa using hl
    have hd : decide ((l0.length : Int) = a1) = true := by simpa using hl
    rw [hd] at h
    subst h
    clear hd hl
    go_enter Try.func34, Try.ntmps34
    go_wp2_with (go_at_call 52; refine (ContainsFunc_int 54 #[] negCoord _ _ l0 _ (predRight _) HR0.out HM.out).mono ?_; rintro e_ w' ⟨rfl, ⟨n2, rfl⟩⟩)
    go_ret
    exact ⟨by simp, by first | exact Drawn0.refl _ | exact ⟨_, rfl⟩⟩
  · have e1 : ((l0.length : Int) == a1) = false := by simpa using hl
    have hd : decide ((l0.length : Int) = a1) = false := by simpa using hl
    rw [hd] at h
    subst h
    clear hd hl
    go_enter Try.func34, Try.ntmps34
    go_wp2
    go_ret
    exact ⟨by simp, by first | exact Drawn0.refl _ | exact ⟨_, rfl⟩⟩
end Go.Proofs.Ytjbjofmcmjojlab.Wk
end
section
namespace Go.Proofs.Ytjbjofmcmjojlab.Wk
open Go.RowKit Go.Proofs.YtjbjofmcmjojlabW.PrintWords Go.Proofs.YtjbjofmcmjojlabW.PrintLast Go.Proofs.YtjbjofmcmjojlabW.PrintMore
attribute [local go_sem] max2_int min2_int max_two min_two max_three min_three max_four min_four
set_option linter.unusedVariables false
set_option linter.unusedSimpArgs false
def grid_Clip.l0 : Nat → List Int → List Int → List Int → List Int → List Int → Int → Int → Option (List Int × List Int × Int)
  | 0, _, _, _, _, _, _, _ => none
  | k + 1, x0, x1, x6, x7, x24, x25, x26 => if x26 < x25 then (if 0 ≤ x26 then (if x26 < (x24.length : Int) then (if x26 < (x0.length : Int) then (if x26 < (x1.length : Int) then (if (rd x1 x26) = 0 then (none) else (if (rd x24 x26) ≤ (wrap64 (Int.tdiv (rd x0 x26) (rd x1 x26))) then (if x6.length < 17592186044416 then (if x7.length < 17592186044416 then (grid_Clip.l0 k x0 x1 (x6 ++ [mn (wrap64 ((rd x24 x26) * (rd x1 x26))) (rd x0 x26)]) (x7 ++ [mn (rd x1 x26) (wrap64 ((rd x0 x26) - (mn (wrap64 ((rd x24 x26) * (rd x1 x26))) (rd x0 x26))))]) x24 x25 (wrap64 (x26 + 1))) else (none)) else (none)) else (if x6.length < 17592186044416 then (if x7.length < 17592186044416 then (grid_Clip.l0 k x0 x1 (x6 ++ [rd x0 x26]) (x7 ++ [mn (rd x1 x26) (wrap64 ((rd x0 x26) - (rd x0 x26)))]) x24 x25 (wrap64 (x26 + 1))) else (none)) else (none)))) else (none)) else (none)) else (none)) else (none)) else (some (x6, x7, 0))
def grid_Clip.f (k : Nat) (l0 : List Int) (l1 : List Int) (l2 : List Int) : Option (List Int × List Int × Int) := (grid_fit.f l0 l1).bind fun t103 => (if t103 = 0 then ((grid_right.f l2 (l0.length : Int)).bind fun t104 => (if t104 = true then (grid_Clip.l0 k l0 l1 ([] : List Int) ([] : List Int) l2 (l2.length : Int) 0) else (some (([] : List Int), ([] : List Int), 2)))) else (some (([] : List Int), ([] : List Int), t103)))
def grid_Clip.T10 : Bool × List (List Nat × List Nat) := (true, [([], []), ([], []), ([], []), ([1, 2], [1, 2]), ([3], [3]), ([], []), ([], []), ([5, 6], [5, 6]), ([7], [7]), ([4, 8], [4, 8]), ([0, 9], [0, 9])])
def grid_Clip.B10 : List Nat := [0, 0, 0, 6, 14, 0, 0, 96, 224, 510, 1023]
theorem grid_Clip.tab10 : rtab .any (opsOf Try.f11 10) = grid_Clip.T10 := by kernel_rfl
theorem grid_Clip.bits10 : waitsOk grid_Clip.T10.2 grid_Clip.B10 = true := by kernel_rfl
def grid_Clip.T13 : Bool × List (List Nat × List Nat) := (true, [([], []), ([], []), ([], []), ([1, 2], [1, 2]), ([3], [3]), ([], []), ([], []), ([5, 6], [5, 6]), ([7], [7]), ([], []), ([8, 9], [8, 9]), ([4, 10], [4, 10]), ([11], [11]), ([0, 12], [0, 12]), ([13, 13, 0, 1, 2, 3, 4, 5, 6, 7, 8, 9, 10, 11, 12, 13], [0, 13])])
def grid_Clip.B13 : List Nat := [0, 0, 0, 6, 14, 0, 0, 96, 224, 0, 992, 2046, 4094, 8191, 16383]
theorem grid_Clip.tab13 : rtab .any (opsOf Try.f11 13) = grid_Clip.T13 := by kernel_rfl
theorem grid_Clip.bits13 : waitsOk grid_Clip.T13.2 grid_Clip.B13 = true := by kernel_rfl
set_option maxHeartbeats 8000000 in
set_option maxRecDepth 100000 in
theorem grid_Clip.calls (k : Nat) (A0 : Option Addr) (c0 : Nat) (l0 : List Int) (A1 : Option Addr) (c1 : Nat) (l1 : List Int) (A2 : Option Addr) (c2 : Nat) (l2 : List Int) (r1 : List Int) (r2 : List Int) (r3 : Int) (w : World) (hr0 : Kd.C (Kd.int .i64) w A0 l0.length l0) (hc0 : l0.length ≤ c0) (hr1 : Kd.C (Kd.int .i64) w A1 l1.length l1) (hc1 : l1.length ≤ c1) (hr2 : Kd.C (Kd.int .i64) w A2 l2.length l2) (hc2 : l2.length ≤ c2) (h : grid_Clip.f k l0 l1 l2 = some (r1, r2, r3)) :
    Calls Try.prog 11 #[.slice A0 l0.length c0, .slice A1 l1.length c1, .slice A2 l2.length c2] w fun e w' => ∃ v0_ v1_ : Value, e = .returned (.tuple #[v0_, v1_, .int .i64 r3]) ∧ Kd.R (Kd.int .i64) 3 w' w.heap.size (fun k_ => some k_ ≠ (v1_ : Value).ownBlock) v0_ r1 ∧ Kd.R (Kd.int .i64) 3 w' w.heap.size (fun k_ => some k_ ≠ (v0_ : Value).ownBlock) v1_ r2 ∧ Below w.heap.size w w' := by
  have HR0 := Aside0.mk hr0
  have HC0 := Aside0.mk hc0
  clear hr0 hc0
  have HR1 := Aside0.mk hr1
  have HC1 := Aside0.mk hc1
  clear hr1 hc1
  have HR2 := Aside0.mk hr2
  have HC2 := Aside0.mk hc2
  clear hr2 hc2
  have HB := Aside0.mk (Below.refl w.heap.size w)
  have H : ((grid_fit.f l0 l1).bind fun t103 => (if t103 = 0 then ((grid_right.f l2 (l0.length : Int)).bind fun t104 => (if t104 = true then (grid_Clip.l0 k l0 l1 ([] : List Int) ([] : List Int) l2 (l2.length : Int) 0) else (some (([] : List Int), ([] : List Int), 2)))) else (some (([] : List Int), ([] : List Int), t103)))) = some (r1, r2, r3) := h
  clear h
  replace H := Option.bind_eq_some_iff.mp H
  obtain ⟨t103, A40, H⟩ := H
  replace H : (if t103 = 0 then ((grid_right.f l2 (l0.length : Int)).bind fun t104 => (if t104 = true then (grid_Clip.l0 k l0 l1 ([] : List Int) ([] : List Int) l2 (l2.length : Int) 0) else (some (([] : List Int), ([] : List Int), 2)))) else (some (([] : List Int), ([] : List Int), t103))) = some (r1, r2, r3) := H
  have A4 := Aside0.mk A40
  clear A40
  by_cases c5 : t103 = 0
  · rw [if_pos c5] at H
    have c5b0 : (t103 == 0) = true := beq_iff_eq.mpr c5
    have c5b1 : (t103 != 0) = false := bne_eq_false_iff_eq.mpr c5
    clear c5
    replace H := Option.bind_eq_some_iff.mp H
    obtain ⟨t104, A60, H⟩ := H
    replace H : (if t104 = true then (grid_Clip.l0 k l0 l1 ([] : List Int) ([] : List Int) l2 (l2.length : Int) 0) else (some (([] : List Int), ([] : List Int), 2))) = some (r1, r2, r3) := H
    have A6 := Aside0.mk A60
    clear A60
    by_cases c7 : t104 = true
    · subst c7
      have H1 : (grid_Clip.l0 k l0 l1 ([] : List Int) ([] : List Int) l2 (l2.length : Int) 0) = some (r1, r2, r3) := by rw [if_pos rfl] at H; exact H
      clear H
      have H := H1
      clear H1
      have H' := Aside0.mk H
      clear H
      go_enter Try.func11, Try.ntmps11
      go_wp2_with (first | ((with_reducible refine gate_callee (f := 33) rfl ?_); refine goesL_ (some 15) rfl rfl Try.func33 (by kernel_rfl) rfl #[.slice A0 l0.length c0, .slice A1 l1.length c1] rfl (by (try simp only [List.map_toArray, List.map_cons, List.map_nil]); first | done | rfl | (simp only [List.length_drop, List.length_take]; rfl)) ?_; (with_reducible refine (grid_fit.calls _ _ l0 _ _ l1 t103 _ ?side1 ?side2 ?side3 ?side4 A4.out).mono ?_); (case side1 => repeat (first | exact HR0.out | (with_reducible refine Kd.C_alloc ?_ _) | (with_reducible refine Kd.C_drewN ?_ _) | (with_reducible refine Kd.C_drew ?_))); (case side2 => exact HC0.out); (case side3 => repeat (first | exact HR1.out | (with_reducible refine Kd.C_alloc ?_ _) | (with_reducible refine Kd.C_drewN ?_ _) | (with_reducible refine Kd.C_drew ?_))); (case side4 => exact HC1.out); rintro e w' ⟨rfl, ⟨nd, rfl⟩⟩; refine ⟨_, rfl, ?_⟩) | ((with_reducible refine gate_callee (f := 34) rfl ?_); refine goesL_ (some 22) rfl rfl Try.func34 (by kernel_rfl) rfl #[.slice A2 l2.length c2, .int .i64 (l0.length : Int)] rfl (by (try simp only [List.map_toArray, List.map_cons, List.map_nil]); first | done | rfl | (simp only [List.length_drop, List.length_take]; rfl)) ?_; (with_reducible refine (grid_right.calls _ _ l2 (l0.length : Int) true _ ?side1 ?side2 A6.out).mono ?_); (case side1 => repeat (first | exact HR2.out | (with_reducible refine Kd.C_alloc ?_ _) | (with_reducible refine Kd.C_drewN ?_ _) | (with_reducible refine Kd.C_drew ?_))); (case side2 => exact HC2.out); rintro e w' ⟨rfl, ⟨nd, rfl⟩⟩; refine ⟨_, rfl, ?_⟩))
      go_loopg [6, 7, 26] k (fun kq v6 v7 v26 w' => ∃ (x6_1 : List Int) (x7_1 : List Int) (x26_1 : Int), v26 = .int .i64 x26_1 ∧ Aside0 (grid_Clip.l0 kq l0 l1 x6_1 x7_1 l2 (l2.length : Int) x26_1 = some (r1, r2, r3)) ∧ Aside0 (kq ≤ k) ∧ Aside0 (Kd.R (Kd.int .i64) 3 w' w.heap.size (fun k_ => some k_ ≠ (v7 : Value).ownBlock) v6 x6_1) ∧ Aside0 (Kd.R (Kd.int .i64) 3 w' w.heap.size (fun k_ => some k_ ≠ (v6 : Value).ownBlock) v7 x7_1) ∧ Aside0 (Below w.heap.size w w'))
      case atStart => exact ⟨(([] : List Int)), (([] : List Int)), (0), (by first | rfl | (simp; done) | (simp [*]; done)), H', ⟨Nat.le_refl _⟩, ⟨by first | exact Kd.R_nil _ _ _ _ _ | exact Kd.N_nil _ _ _ _ _ | exact Kd.V_nil _ _ _ _ _ | exact Kd.Q_nil _ _ _ _ _ | exact Kd.S_nil _ _ _ _ _⟩, ⟨by first | exact Kd.R_nil _ _ _ _ _ | exact Kd.N_nil _ _ _ _ _ | exact Kd.V_nil _ _ _ _ _ | exact Kd.Q_nil _ _ _ _ _ | exact Kd.S_nil _ _ _ _ _⟩, ⟨by repeat (first | (with_reducible first | exact HB.out | apply below_alloc | apply pw_below_drewN | apply below_drew1) | exact HB.out)⟩⟩
      case round =>
        clear H'
        try clear c1
        try clear c2
        try clear p2
        try clear c3
        try clear c5
        try clear c5b0
        try clear c5b1
        try clear c7
        obtain ⟨x6_1, x7_1, x26_1, rfl, HA, HK1, HO_6, HO_7, HB⟩ := hrel
        cases gk with
        | zero => exact absurd HA.out (by simp [grid_Clip.l0])
        | succ k1 =>
          have H := HA.out
          clear HA
          simp only [grid_Clip.l0] at H
          by_cases c8 : x26_1 < (l2.length : Int)
          · rw [if_pos c8] at H
            have c8b0 : decide (x26_1 < (l2.length : Int)) = true := decide_eq_true c8
            clear c8
            by_cases c9 : 0 ≤ x26_1
            · rw [if_pos c9] at H
              have c9b0 : decide (0 ≤ x26_1) = true := decide_eq_true c9
              clear c9
              by_cases c10 : x26_1 < (l2.length : Int)
              · rw [if_pos c10] at H
                have c10b0 : decide (x26_1 < (l2.length : Int)) = true := decide_eq_true c10
                clear c10
                by_cases c11 : x26_1 < (l0.length : Int)
                · rw [if_pos c11] at H
                  have c11b0 : decide (x26_1 < (l0.length : Int)) = true := decide_eq_true c11
                  clear c11
                  by_cases c12 : x26_1 < (l1.length : Int)
                  · rw [if_pos c12] at H
                    have c12b0 : decide (x26_1 < (l1.length : Int)) = true := decide_eq_true c12
                    clear c12
                    by_cases c13 : (rd l1 x26_1) = 0
                    · rw [if_pos c13] at H
                      exact absurd H (by simp)
                    · rw [if_neg c13] at H
                      have c13b0 : ((rd l1 x26_1) == 0) = false := beq_eq_false_iff_ne.mpr c13
                      have c13b1 : ((rd l1 x26_1) != 0) = true := bne_iff_ne.mpr c13
                      by_cases c14 : (rd l2 x26_1) ≤ (wrap64 (Int.tdiv (rd l0 x26_1) (rd l1 x26_1)))
                      · rw [if_pos c14] at H
                        have c14b0 : decide ((rd l2 x26_1) ≤ (wrap64 (Int.tdiv (rd l0 x26_1) (rd l1 x26_1)))) = true := decide_eq_true c14
                        clear c14
                        obtain ⟨ji15, hji15⟩ : ∃ j_ : Int, (mn (wrap64 ((rd l2 x26_1) * (rd l1 x26_1))) (rd l0 x26_1)) = j_ := ⟨_, rfl⟩
                        replace H : (if x6_1.length < 17592186044416 then (if x7_1.length < 17592186044416 then (grid_Clip.l0 k1 l0 l1 (x6_1 ++ [ji15]) (x7_1 ++ [mn (rd l1 x26_1) (wrap64 ((rd l0 x26_1) - (ji15)))]) l2 (l2.length : Int) (wrap64 (x26_1 + 1))) else (none)) else (none)) = some (r1, r2, r3) := by first | (rw [hji15] at H; exact H) | (simp only [hji15] at H ⊢; exact H)
                        have hji15_ : (if (rd l0 x26_1) < (wrap64 ((rd l2 x26_1) * (rd l1 x26_1))) then (rd l0 x26_1) else (wrap64 ((rd l2 x26_1) * (rd l1 x26_1)))) = ji15 := hji15
                        by_cases c16 : x6_1.length < 17592186044416
                        · rw [if_pos c16] at H
                          have LMc16 := Aside0.mk c16
                          clear c16
                          obtain ⟨y110, hy110⟩ : ∃ y_ : List Int, y_ = (x6_1 ++ [ji15]) := ⟨_, rfl⟩
                          replace H : (if x7_1.length < 17592186044416 then (grid_Clip.l0 k1 l0 l1 y110 (x7_1 ++ [mn (rd l1 x26_1) (wrap64 ((rd l0 x26_1) - (ji15)))]) l2 (l2.length : Int) (wrap64 (x26_1 + 1))) else (none)) = some (r1, r2, r3) := by first | (rw [hy110]; with_reducible exact H) | (have H2_ := (Option.bind_some _ _).symm.trans H; rw [hy110]; with_reducible exact H2_) | (have H2_ := (Option.bind_some _ _).symm.trans H; with_reducible exact H2_) | with_reducible exact H | (rw [hy110]; exact H) | exact H
                          have Ny110 := Aside0.mk hy110
                          clear hy110
                          obtain ⟨ji17, hji17⟩ : ∃ j_ : Int, (mn (rd l1 x26_1) (wrap64 ((rd l0 x26_1) - (ji15)))) = j_ := ⟨_, rfl⟩
                          replace H : (if x7_1.length < 17592186044416 then (grid_Clip.l0 k1 l0 l1 y110 (x7_1 ++ [ji17]) l2 (l2.length : Int) (wrap64 (x26_1 + 1))) else (none)) = some (r1, r2, r3) := by first | (rw [hji17] at H; exact H) | (simp only [hji17] at H ⊢; exact H)
                          have hji17_ : (if (wrap64 ((rd l0 x26_1) - (ji15))) < (rd l1 x26_1) then (wrap64 ((rd l0 x26_1) - (ji15))) else (rd l1 x26_1)) = ji17 := hji17
                          by_cases c18 : x7_1.length < 17592186044416
                          · rw [if_pos c18] at H
                            have LMc18 := Aside0.mk c18
                            clear c18
                            obtain ⟨y115, hy115⟩ : ∃ y_ : List Int, y_ = (x7_1 ++ [ji17]) := ⟨_, rfl⟩
                            replace H : (grid_Clip.l0 k1 l0 l1 y110 y115 l2 (l2.length : Int) (wrap64 (x26_1 + 1))) = some (r1, r2, r3) := by first | (rw [hy115]; with_reducible exact H) | (have H2_ := (Option.bind_some _ _).symm.trans H; rw [hy115]; with_reducible exact H2_) | (have H2_ := (Option.bind_some _ _).symm.trans H; with_reducible exact H2_) | with_reducible exact H | (rw [hy115]; exact H) | exact H
                            have Ny115 := Aside0.mk hy115
                            clear hy115
                            have H' := Aside0.mk H
                            clear H
                            have p105 : 0 ≤ (x26_1 : Int) := of_decide_eq_true (by first | (with_reducible assumption) | assumption)
                            have q105 : x26_1 < (l2.length : Int) := of_decide_eq_true (by first | (with_reducible assumption) | assumption)
                            obtain ⟨ad105, e105, hx105_0⟩ := Kd.at_int HR2.out x26_1 p105 q105
                            cases e105
                            replace hx105_0 := (HB.out.cell (World.block_lt_of_cell? w _ hx105_0)).trans hx105_0
                            replace p105 := eq_true p105
                            replace q105 := eq_true q105
                            have p106 : 0 ≤ (x26_1 : Int) := of_decide_eq_true (by first | (with_reducible assumption) | assumption)
                            have q106 : x26_1 < (l0.length : Int) := of_decide_eq_true (by first | (with_reducible assumption) | assumption)
                            obtain ⟨ad106, e106, hx106_0⟩ := Kd.at_int HR0.out x26_1 p106 q106
                            cases e106
                            replace hx106_0 := (HB.out.cell (World.block_lt_of_cell? w _ hx106_0)).trans hx106_0
                            replace p106 := eq_true p106
                            replace q106 := eq_true q106
                            try go_wp2
                            have n0_ := Aside0.mk (Kd.R_drew HO_6.out)
                            have n1_ := Aside0.mk (Kd.R_drew HO_7.out)
                            have n2_ := Aside0.mk (below_drew1 HB.out)
                            clear HO_6
                            clear HO_7
                            clear HB
                            have HO_6 := n0_
                            have HO_7 := n1_
                            have HB := n2_
                            clear n0_ n1_ n2_
                            have p107 : 0 ≤ (x26_1 : Int) := of_decide_eq_true (by first | (with_reducible assumption) | assumption)
                            have q107 : x26_1 < (l0.length : Int) := of_decide_eq_true (by first | (with_reducible assumption) | assumption)
                            obtain ⟨ad107, e107, hx107_0⟩ := Kd.at_int HR0.out x26_1 p107 q107
                            have hw107_0 := hx107_0
                            obtain rfl : ad106 = ad107 := (by injection e107)
                            replace hx107_0 := (HB.out.cell (World.block_lt_of_cell? w _ hx107_0)).trans hx107_0
                            replace p107 := eq_true p107
                            replace q107 := eq_true q107
                            have p108 : 0 ≤ (x26_1 : Int) := of_decide_eq_true (by first | (with_reducible assumption) | assumption)
                            have q108 : x26_1 < (l1.length : Int) := of_decide_eq_true (by first | (with_reducible assumption) | assumption)
                            obtain ⟨ad108, e108, hx108_0⟩ := Kd.at_int HR1.out x26_1 p108 q108
                            have hw108_0 := hx108_0
                            cases e108
                            replace hx108_0 := (HB.out.cell (World.block_lt_of_cell? w _ hx108_0)).trans hx108_0
                            replace p108 := eq_true p108
                            replace q108 := eq_true q108
                            refine start_ (n := 11) (S := fun w' => w'.cell? (ad106.add (x26_1).toNat) = some (.int .i64 (rd l0 x26_1)) ∧ w'.cell? (ad108.add (x26_1).toNat) = some (.int .i64 (rd l1 x26_1))) (ds := []) #[false, false, false, false, false, false, false, false, false, false, false] (by kernel_rfl) rfl rfl ⟨((HB.out.cell (World.block_lt_of_cell? w _ hw107_0)).trans hw107_0), ((HB.out.cell (World.block_lt_of_cell? w _ hw108_0)).trans hw108_0)⟩ (fun hHeld => ?_); refine with_tabW grid_Clip.tab10 grid_Clip.bits10 (fun HT_ HW_ => ?_)
                            generalize wr.drew = w19 at HO_6 HO_7 HB hx107_0 hx108_0 hHeld ⊢
                            refine pure_ (i := 0) (N := some 35) (v := ?_) (a' := ?_) #[true, false, false, false, false, false, false, false, false, false, false] rfl rfl (any_of HT_.out (by kernel_rfl)) (fun _ _ _ h => h) (Or.inl ⟨by rfl, ?_⟩) ?_ ?_
                            rotate_left
                            · intro w'
                              go_simp
                              with_reducible rfl
                            rotate_left
                            · simp only [Act.put, List.setIfInBounds_toArray, List.set_cons_zero, List.set_cons_succ, i64_w, i32_w]
                              rfl
                            refine pure_ (i := 1) (N := some 36) (v := ?_) (a' := ?_) #[true, true, false, false, false, false, false, false, false, false, false] rfl rfl (any_of HT_.out (by kernel_rfl)) (fun _ _ _ h => h) (Or.inl ⟨by rfl, ?_⟩) ?_ ?_
                            rotate_left
                            · intro w'
                              go_simp
                              with_reducible rfl
                            rotate_left
                            · simp only [Act.put, List.setIfInBounds_toArray, List.set_cons_zero, List.set_cons_succ, i64_w, i32_w]
                              rfl
                            refine pure_ (i := 2) (N := some 37) (v := ?_) (a' := ?_) #[true, true, true, false, false, false, false, false, false, false, false] rfl rfl (any_of HT_.out (by kernel_rfl)) (fun _ _ _ h => h) (Or.inl ⟨by rfl, ?_⟩) ?_ ?_
                            rotate_left
                            · intro w'
                              go_simp
                              with_reducible rfl
                            rotate_left
                            · simp only [Act.put, List.setIfInBounds_toArray, List.set_cons_zero, List.set_cons_succ, i64_w, i32_w]
                              rfl
                            refine pure_ (i := 3) (N := some 38) (v := ?_) (a' := ?_) #[true, true, true, true, false, false, false, false, false, false, false] rfl rfl (any_of HT_.out (by kernel_rfl)) (fun _ _ _ h => h) (Or.inl ⟨by rfl, ?_⟩) ?_ ?_
                            rotate_left
                            · intro w'
                              go_simp
                              with_reducible rfl
                            rotate_left
                            · simp only [Act.put, List.setIfInBounds_toArray, List.set_cons_zero, List.set_cons_succ, i64_w, i32_w]
                              rfl
                            refine pure_ (i := 5) (N := some 40) (v := ?_) (a' := ?_) #[true, true, true, true, false, true, false, false, false, false, false] rfl rfl (any_of HT_.out (by kernel_rfl)) (fun _ _ _ h => h) (Or.inl ⟨by rfl, ?_⟩) ?_ ?_
                            rotate_left
                            · intro w'
                              go_simp
                              with_reducible rfl
                            rotate_left
                            · simp only [Act.put, List.setIfInBounds_toArray, List.set_cons_zero, List.set_cons_succ, i64_w, i32_w]
                              rfl
                            refine pure_ (i := 6) (N := some 41) (v := ?_) (a' := ?_) #[true, true, true, true, false, true, true, false, false, false, false] rfl rfl (any_of HT_.out (by kernel_rfl)) (fun _ _ _ h => h) (Or.inl ⟨by rfl, ?_⟩) ?_ ?_
                            rotate_left
                            · intro w'
                              go_simp
                              with_reducible rfl
                            rotate_left
                            · simp only [Act.put, List.setIfInBounds_toArray, List.set_cons_zero, List.set_cons_succ, i64_w, i32_w]
                              rfl
                            refine pure_ (i := 7) (N := some 42) (v := ?_) (a' := ?_) #[true, true, true, true, false, true, true, true, false, false, false] rfl rfl (any_of HT_.out (by kernel_rfl)) (fun _ _ _ h => h) (Or.inl ⟨by rfl, ?_⟩) ?_ ?_
                            rotate_left
                            · intro w'
                              go_simp
                              with_reducible rfl
                            rotate_left
                            · simp only [Act.put, List.setIfInBounds_toArray, List.set_cons_zero, List.set_cons_succ, i64_w, i32_w]
                              rfl
                            refine take_ (i := 4) (N := some 39) (v := ?_) (a' := ?_) #[true, true, true, true, true, true, true, true, false, false, false] rfl rfl (take_ofW HT_.out HW_.out (by kernel_rfl)) (fun _ _ _ h => h) (Or.inl ⟨by rfl, ?_⟩) hHeld ?_ ?_
                            rotate_left
                            · rintro w' ⟨s0, s1⟩
                              go_simp
                              with_reducible rfl
                            rotate_left
                            · simp only [Act.put, List.setIfInBounds_toArray, List.set_cons_zero, List.set_cons_succ, i64_w, i32_w]
                              rfl
                            refine take_ (i := 8) (N := some 43) (v := ?_) (a' := ?_) #[true, true, true, true, true, true, true, true, true, false, false] rfl rfl (take_ofW HT_.out HW_.out (by kernel_rfl)) (fun _ _ _ h => h) (Or.inl ⟨by rfl, ?_⟩) hHeld ?_ ?_
                            rotate_left
                            · rintro w' ⟨s0, s1⟩
                              go_simp
                              with_reducible rfl
                            rotate_left
                            · simp only [Act.put, List.setIfInBounds_toArray, List.set_cons_zero, List.set_cons_succ, i64_w, i32_w]
                              rfl
                            refine pure_ (i := 9) (N := some 44) (v := ?_) (a' := ?_) #[true, true, true, true, true, true, true, true, true, true, false] rfl rfl (any_of HT_.out (by kernel_rfl)) (fun _ _ _ h => h) (Or.inl ⟨by rfl, ?_⟩) ?_ ?_
                            rotate_left
                            · intro w'
                              go_simp
                              with_reducible rfl
                            rotate_left
                            · simp only [Act.put, List.setIfInBounds_toArray, List.set_cons_zero, List.set_cons_succ, i64_w, i32_w]
                              rfl
                            refine pure_ (i := 10) (N := some 45) (v := ?_) (a' := ?_) #[true, true, true, true, true, true, true, true, true, true, true] rfl rfl (any_of HT_.out (by kernel_rfl)) (fun _ _ _ h => h) (Or.inl ⟨by rfl, ?_⟩) ?_ ?_
                            rotate_left
                            · intro w'
                              go_simp
                              with_reducible rfl
                            rotate_left
                            · simp only [Act.put, List.setIfInBounds_toArray, List.set_cons_zero, List.set_cons_succ, i64_w, i32_w]
                              rfl
                            refine done_ (done_of HT_.out (by kernel_rfl)) ?_
                            have p109 : 0 ≤ (x26_1 : Int) := of_decide_eq_true (by first | (with_reducible assumption) | assumption)
                            have q109 : x26_1 < (l1.length : Int) := of_decide_eq_true (by first | (with_reducible assumption) | assumption)
                            obtain ⟨ad109, e109, hx109_0⟩ := Kd.at_int HR1.out x26_1 p109 q109
                            obtain rfl : ad108 = ad109 := (by injection e109)
                            replace hx109_0 := (HB.out.cell (World.block_lt_of_cell? w _ hx109_0)).trans hx109_0
                            replace p109 := eq_true p109
                            replace q109 := eq_true q109
                            try go_wp2_with (first | ((with_reducible refine gate_builtin (b := .append) (xs := #[.tmp 54, .tmp 56]) rfl ?_); at_builtin; refine Kd.R_append (Kd.int .i64) (w0 := w) w.heap.size rfl (.tmp 54) (.tmp 56) 22 3 (.int .i64 0) 8 rfl Try.underlying22 info3 rfl (by decide) (by omega) u6 x6_1 ji15 [.int .i64 ji15] (fun k_ => some k_ ≠ (u7 : Value).ownBlock) (fun _ => False) rfl rfl ?aP (fun _ hk => hk.elim) ?aF ?aO ?aB ?aS ?aL ?_; (case aP => exact rfl); (case aB => exact (by repeat (first | (with_reducible first | exact HB.out | apply below_alloc | apply pw_below_drewN | apply below_drew1) | exact HB.out))); (case aF => exact (fun k_ hk => Kd.fresh' (Kd.R_lt (by (with_reducible repeat (first | apply Kd.R_alloc | apply Kd.R_drewN | apply Kd.R_drew)); exact HO_7.out)) k_ hk)); (case aO => exact (by (with_reducible repeat (first | apply Kd.R_alloc | apply Kd.R_drewN | apply Kd.R_drew)); exact HO_6.out)); (case aS => exact (below_size (by repeat (first | (with_reducible first | exact HB.out | apply below_alloc | apply pw_below_drewN | apply below_drew1) | exact HB.out)))); (case aL => have := LMc16.out; omega); intro v111 w20 ho hb hg hat; rw [← Ny110.out] at ho; have n0_ := Aside0.mk (Kd.R_after (ok := (fun _ => True)) (by (with_reducible repeat (first | apply Kd.R_alloc | apply Kd.R_drewN | apply Kd.R_drew)); exact Kd.R_mono HO_7.out (fun _ hk => ⟨trivial, hk⟩)) hg hat); have n1_ := Aside0.mk (hb); have n2_ := Aside0.mk (ho); clear HO_7; clear HB; clear HO_6; have HO_7 := n0_; have HB := n1_; have HO112 := n2_; clear n0_ n1_ n2_; clear ho hb hg hat))
                            have n0_ := Aside0.mk (Kd.R_drew HO_7.out)
                            have n1_ := Aside0.mk (Kd.R_drew HO112.out)
                            have n2_ := Aside0.mk (below_drew1 HB.out)
                            clear HO_7
                            clear HO112
                            clear HB
                            have HO_7 := n0_
                            have HO112 := n1_
                            have HB := n2_
                            clear n0_ n1_ n2_
                            have p113 : 0 ≤ (x26_1 : Int) := of_decide_eq_true (by first | (with_reducible assumption) | assumption)
                            have q113 : x26_1 < (l1.length : Int) := of_decide_eq_true (by first | (with_reducible assumption) | assumption)
                            obtain ⟨ad113, e113, hx113_0⟩ := Kd.at_int HR1.out x26_1 p113 q113
                            have hw113_0 := hx113_0
                            obtain rfl : ad108 = ad113 := (by injection e113)
                            replace hx113_0 := (HB.out.cell (World.block_lt_of_cell? w _ hx113_0)).trans hx113_0
                            replace p113 := eq_true p113
                            replace q113 := eq_true q113
                            have p114 : 0 ≤ (x26_1 : Int) := of_decide_eq_true (by first | (with_reducible assumption) | assumption)
                            have q114 : x26_1 < (l0.length : Int) := of_decide_eq_true (by first | (with_reducible assumption) | assumption)
                            obtain ⟨ad114, e114, hx114_0⟩ := Kd.at_int HR0.out x26_1 p114 q114
                            have hw114_0 := hx114_0
                            obtain rfl : ad106 = ad114 := (by injection e114)
                            replace hx114_0 := (HB.out.cell (World.block_lt_of_cell? w _ hx114_0)).trans hx114_0
                            replace p114 := eq_true p114
                            replace q114 := eq_true q114
                            refine start_ (n := 15) (S := fun w' => w'.cell? (ad108.add (x26_1).toNat) = some (.int .i64 (rd l1 x26_1)) ∧ w'.cell? (ad106.add (x26_1).toNat) = some (.int .i64 (rd l0 x26_1))) (ds := []) #[false, false, false, false, false, false, false, false, false, false, false, false, false, false, false] (by kernel_rfl) rfl rfl ⟨((HB.out.cell (World.block_lt_of_cell? w _ hw113_0)).trans hw113_0), ((HB.out.cell (World.block_lt_of_cell? w _ hw114_0)).trans hw114_0)⟩ (fun hHeld => ?_); refine with_tabW grid_Clip.tab13 grid_Clip.bits13 (fun HT_ HW_ => ?_)
                            generalize w20.drew = w21 at HO_7 HO112 HB hx113_0 hx114_0 hHeld ⊢
                            refine pure_ (i := 0) (N := some 58) (v := ?_) (a' := ?_) #[true, false, false, false, false, false, false, false, false, false, false, false, false, false, false] rfl rfl (any_of HT_.out (by kernel_rfl)) (fun _ _ _ h => h) (Or.inl ⟨by rfl, ?_⟩) ?_ ?_
                            rotate_left
                            · intro w'
                              go_simp
                              with_reducible rfl
                            rotate_left
                            · simp only [Act.put, List.setIfInBounds_toArray, List.set_cons_zero, List.set_cons_succ, i64_w, i32_w]
                              rfl
                            refine pure_ (i := 1) (N := some 59) (v := ?_) (a' := ?_) #[true, true, false, false, false, false, false, false, false, false, false, false, false, false, false] rfl rfl (any_of HT_.out (by kernel_rfl)) (fun _ _ _ h => h) (Or.inl ⟨by rfl, ?_⟩) ?_ ?_
                            rotate_left
                            · intro w'
                              go_simp
                              with_reducible rfl
                            rotate_left
                            · simp only [Act.put, List.setIfInBounds_toArray, List.set_cons_zero, List.set_cons_succ, i64_w, i32_w]
                              rfl
                            refine pure_ (i := 2) (N := some 60) (v := ?_) (a' := ?_) #[true, true, true, false, false, false, false, false, false, false, false, false, false, false, false] rfl rfl (any_of HT_.out (by kernel_rfl)) (fun _ _ _ h => h) (Or.inl ⟨by rfl, ?_⟩) ?_ ?_
                            rotate_left
                            · intro w'
                              go_simp
                              with_reducible rfl
                            rotate_left
                            · simp only [Act.put, List.setIfInBounds_toArray, List.set_cons_zero, List.set_cons_succ, i64_w, i32_w]
                              rfl
                            refine pure_ (i := 3) (N := some 61) (v := ?_) (a' := ?_) #[true, true, true, true, false, false, false, false, false, false, false, false, false, false, false] rfl rfl (any_of HT_.out (by kernel_rfl)) (fun _ _ _ h => h) (Or.inl ⟨by rfl, ?_⟩) ?_ ?_
                            rotate_left
                            · intro w'
                              go_simp
                              with_reducible rfl
                            rotate_left
                            · simp only [Act.put, List.setIfInBounds_toArray, List.set_cons_zero, List.set_cons_succ, i64_w, i32_w]
                              rfl
                            refine pure_ (i := 5) (N := some 63) (v := ?_) (a' := ?_) #[true, true, true, true, false, true, false, false, false, false, false, false, false, false, false] rfl rfl (any_of HT_.out (by kernel_rfl)) (fun _ _ _ h => h) (Or.inl ⟨by rfl, ?_⟩) ?_ ?_
                            rotate_left
                            · intro w'
                              go_simp
                              with_reducible rfl
                            rotate_left
                            · simp only [Act.put, List.setIfInBounds_toArray, List.set_cons_zero, List.set_cons_succ, i64_w, i32_w]
                              rfl
                            refine pure_ (i := 6) (N := some 64) (v := ?_) (a' := ?_) #[true, true, true, true, false, true, true, false, false, false, false, false, false, false, false] rfl rfl (any_of HT_.out (by kernel_rfl)) (fun _ _ _ h => h) (Or.inl ⟨by rfl, ?_⟩) ?_ ?_
                            rotate_left
                            · intro w'
                              go_simp
                              with_reducible rfl
                            rotate_left
                            · simp only [Act.put, List.setIfInBounds_toArray, List.set_cons_zero, List.set_cons_succ, i64_w, i32_w]
                              rfl
                            refine pure_ (i := 7) (N := some 65) (v := ?_) (a' := ?_) #[true, true, true, true, false, true, true, true, false, false, false, false, false, false, false] rfl rfl (any_of HT_.out (by kernel_rfl)) (fun _ _ _ h => h) (Or.inl ⟨by rfl, ?_⟩) ?_ ?_
                            rotate_left
                            · intro w'
                              go_simp
                              with_reducible rfl
                            rotate_left
                            · simp only [Act.put, List.setIfInBounds_toArray, List.set_cons_zero, List.set_cons_succ, i64_w, i32_w]
                              rfl
                            refine pure_ (i := 9) (N := some 67) (v := ?_) (a' := ?_) #[true, true, true, true, false, true, true, true, false, true, false, false, false, false, false] rfl rfl (any_of HT_.out (by kernel_rfl)) (fun _ _ _ h => h) (Or.inl ⟨by rfl, ?_⟩) ?_ ?_
                            rotate_left
                            · intro w'
                              go_simp
                              with_reducible rfl
                            rotate_left
                            · simp only [Act.put, List.setIfInBounds_toArray, List.set_cons_zero, List.set_cons_succ, i64_w, i32_w]
                              rfl
                            refine take_ (i := 4) (N := some 62) (v := ?_) (a' := ?_) #[true, true, true, true, true, true, true, true, false, true, false, false, false, false, false] rfl rfl (take_ofW HT_.out HW_.out (by kernel_rfl)) (fun _ _ _ h => h) (Or.inl ⟨by rfl, ?_⟩) hHeld ?_ ?_
                            rotate_left
                            · rintro w' ⟨s0, s1⟩
                              go_simp
                              with_reducible rfl
                            rotate_left
                            · simp only [Act.put, List.setIfInBounds_toArray, List.set_cons_zero, List.set_cons_succ, i64_w, i32_w]
                              rfl
                            refine take_ (i := 8) (N := some 66) (v := ?_) (a' := ?_) #[true, true, true, true, true, true, true, true, true, true, false, false, false, false, false] rfl rfl (take_ofW HT_.out HW_.out (by kernel_rfl)) (fun _ _ _ h => h) (Or.inl ⟨by rfl, ?_⟩) hHeld ?_ ?_
                            rotate_left
                            · rintro w' ⟨s0, s1⟩
                              go_simp
                              with_reducible rfl
                            rotate_left
                            · simp only [Act.put, List.setIfInBounds_toArray, List.set_cons_zero, List.set_cons_succ, i64_w, i32_w]
                              rfl
                            refine pure_ (i := 10) (N := some 68) (v := ?_) (a' := ?_) #[true, true, true, true, true, true, true, true, true, true, true, false, false, false, false] rfl rfl (any_of HT_.out (by kernel_rfl)) (fun _ _ _ h => h) (Or.inl ⟨by rfl, ?_⟩) ?_ ?_
                            rotate_left
                            · intro w'
                              go_simp
                              with_reducible rfl
                            rotate_left
                            · simp only [Act.put, List.setIfInBounds_toArray, List.set_cons_zero, List.set_cons_succ, i64_w, i32_w]
                              rfl
                            refine pure_ (i := 11) (N := some 69) (v := ?_) (a' := ?_) #[true, true, true, true, true, true, true, true, true, true, true, true, false, false, false] rfl rfl (any_of HT_.out (by kernel_rfl)) (fun _ _ _ h => h) (Or.inl ⟨by rfl, ?_⟩) ?_ ?_
                            rotate_left
                            · intro w'
                              go_simp
                              with_reducible rfl
                            rotate_left
                            · simp only [Act.put, List.setIfInBounds_toArray, List.set_cons_zero, List.set_cons_succ, i64_w, i32_w]
                              rfl
                            refine one_ (i := 12) (N := some 70) #[true, true, true, true, true, true, true, true, true, true, true, true, true, false, false] rfl rfl (one_of HT_.out (by kernel_rfl)) (by decide) (fun K hK => ?_)
                            refine value_ (w1 := ?_) (v := ?_) (by rfl) rfl ?_ ?_
                            rotate_left 2
                            · go_simp
                              constructor
                              · rfl
                              · rfl
                            refine hK.out _ _ ⟨(World.cell?_alloc_lt _ _ _ (World.block_lt_of_cell? _ _ (((HB.out.cell (World.block_lt_of_cell? w _ hw113_0)).trans hw113_0)))).trans (((HB.out.cell (World.block_lt_of_cell? w _ hw113_0)).trans hw113_0)), (World.cell?_alloc_lt _ _ _ (World.block_lt_of_cell? _ _ (((HB.out.cell (World.block_lt_of_cell? w _ hw114_0)).trans hw114_0)))).trans (((HB.out.cell (World.block_lt_of_cell? w _ hw114_0)).trans hw114_0))⟩ (fun hHeld => ?_)
                            clear hK K
                            refine norm_ (a' := ?_) ?_ ?_
                            rotate_left
                            · show Act.put _ (some 70) _ = _
                              simp only [Act.put, List.setIfInBounds_toArray, List.set_cons_zero, List.set_cons_succ, i64_w, i32_w]
                              rfl
                            refine one_ (i := 13) (N := some 71) #[true, true, true, true, true, true, true, true, true, true, true, true, true, true, false] rfl rfl (one_of HT_.out (by kernel_rfl)) (by decide) (fun K hK => ?_)
                            refine Kd.R_append_step (Kd.int .i64) (w0 := w) w.heap.size (by rfl) (.tmp 58) (.tmp 70) 22 3 (.int .i64 0) 8 rfl Try.underlying22 info3 rfl (by decide) (by omega) u7 x7_1 ji17 [.int .i64 ji17] (fun k_ => some k_ ≠ (v111 : Value).ownBlock) (fun _ => False) rfl rfl ?aP (fun _ hk => hk.elim) ?aF ?aO ?aB ?aS ?aL ?_
                            (case aP => exact rfl)
                            (case aB => exact (by repeat (first | (with_reducible first | exact HB.out | apply below_alloc | apply pw_below_drewN | apply below_drew1) | exact HB.out)))
                            (case aF => exact (fun k_ hk => Kd.fresh' (Kd.R_lt (by (with_reducible repeat (first | apply Kd.R_alloc | apply Kd.R_drewN | apply Kd.R_drew)); exact HO112.out)) k_ hk))
                            (case aO => exact (by (with_reducible repeat (first | apply Kd.R_alloc | apply Kd.R_drewN | apply Kd.R_drew)); exact Kd.R_mono HO_7.out (fun _ hk => hk.2)))
                            (case aS => exact (below_size (by repeat (first | (with_reducible first | exact HB.out | apply below_alloc | apply pw_below_drewN | apply below_drew1) | exact HB.out))))
                            (case aL => have := LMc18.out; omega)
                            intro v116 w22 ho hb hg hat
                            rw [← Ny115.out] at ho
                            have n0_ := Aside0.mk (Kd.R_after (ok := (fun _ => True)) (by (with_reducible repeat (first | apply Kd.R_alloc | apply Kd.R_drewN | apply Kd.R_drew)); exact Kd.R_mono HO112.out (fun _ hk => ⟨trivial, hk⟩)) hg hat)
                            have n1_ := Aside0.mk (hb)
                            have n2_ := Aside0.mk (ho)
                            clear HO112
                            clear HB
                            clear HO_7
                            have HO112 := n0_
                            have HB := n1_
                            have HO117 := n2_
                            clear n0_ n1_ n2_
                            clear ho hb hg hat
                            refine hK.out _ _ ⟨((HB.out.cell (World.block_lt_of_cell? w _ hw113_0)).trans hw113_0), ((HB.out.cell (World.block_lt_of_cell? w _ hw114_0)).trans hw114_0)⟩ (fun hHeld => ?_)
                            clear hK K
                            refine norm_ (a' := ?_) ?_ ?_
                            rotate_left
                            · show Act.put _ (some 71) _ = _
                              simp only [Act.put, List.setIfInBounds_toArray, List.set_cons_zero, List.set_cons_succ, i64_w, i32_w]
                              rfl
                            refine pure_ (i := 14) (N := some 7) (v := ?_) (a' := ?_) #[true, true, true, true, true, true, true, true, true, true, true, true, true, true, true] rfl rfl (any_of HT_.out (by kernel_rfl)) (fun _ _ _ h => h) (Or.inl ⟨by rfl, ?_⟩) ?_ ?_
                            rotate_left
                            · intro w'
                              go_simp
                              with_reducible rfl
                            rotate_left
                            · simp only [Act.put, List.setIfInBounds_toArray, List.set_cons_zero, List.set_cons_succ, i64_w, i32_w]
                              rfl
                            refine done_ (done_of HT_.out (by kernel_rfl)) ?_
                            try go_wp2
                            go_roundg k1
                            case measure => have := HK1.out; omega
                            case rel => exact ⟨(y110), (y115), (wrap64 (x26_1 + 1)), (by first | rfl | (simp; done) | (simp [*]; done)), H', ⟨by have := HK1.out; omega⟩, ⟨by (with_reducible repeat (first | apply Kd.R_alloc | apply Kd.R_drewN | apply Kd.R_drew)); exact Kd.R_mono HO112.out (fun _ hk => hk.2)⟩, ⟨by (with_reducible repeat (first | apply Kd.R_alloc | apply Kd.R_drewN | apply Kd.R_drew)); exact HO117.out⟩, ⟨by repeat (first | (with_reducible first | exact HB.out | apply below_alloc | apply pw_below_drewN | apply below_drew1) | exact HB.out)⟩⟩
                          · rw [if_neg c18] at H
                            exact absurd H (by simp)
                        · rw [if_neg c16] at H
                          exact absurd H (by simp)
                      · rw [if_neg c14] at H
                        have c14b0 : decide ((rd l2 x26_1) ≤ (wrap64 (Int.tdiv (rd l0 x26_1) (rd l1 x26_1)))) = false := decide_eq_false c14
                        clear c14
                        by_cases c23 : x6_1.length < 17592186044416
                        · rw [if_pos c23] at H
                          have LMc23 := Aside0.mk c23
                          clear c23
                          obtain ⟨y118, hy118⟩ : ∃ y_ : List Int, y_ = (x6_1 ++ [rd l0 x26_1]) := ⟨_, rfl⟩
                          replace H : (if x7_1.length < 17592186044416 then (grid_Clip.l0 k1 l0 l1 y118 (x7_1 ++ [mn (rd l1 x26_1) (wrap64 ((rd l0 x26_1) - (rd l0 x26_1)))]) l2 (l2.length : Int) (wrap64 (x26_1 + 1))) else (none)) = some (r1, r2, r3) := by first | (rw [hy118]; with_reducible exact H) | (have H2_ := (Option.bind_some _ _).symm.trans H; rw [hy118]; with_reducible exact H2_) | (have H2_ := (Option.bind_some _ _).symm.trans H; with_reducible exact H2_) | with_reducible exact H | (rw [hy118]; exact H) | exact H
                          have Ny118 := Aside0.mk hy118
                          clear hy118
                          obtain ⟨ji24, hji24⟩ : ∃ j_ : Int, (mn (rd l1 x26_1) (wrap64 ((rd l0 x26_1) - (rd l0 x26_1)))) = j_ := ⟨_, rfl⟩
                          replace H : (if x7_1.length < 17592186044416 then (grid_Clip.l0 k1 l0 l1 y118 (x7_1 ++ [ji24]) l2 (l2.length : Int) (wrap64 (x26_1 + 1))) else (none)) = some (r1, r2, r3) := by first | (rw [hji24] at H; exact H) | (simp only [hji24] at H ⊢; exact H)
                          have hji24_ : (if (wrap64 ((rd l0 x26_1) - (rd l0 x26_1))) < (rd l1 x26_1) then (wrap64 ((rd l0 x26_1) - (rd l0 x26_1))) else (rd l1 x26_1)) = ji24 := hji24
                          have hji24z : (if wrap64 0 < rd l1 x26_1 then wrap64 0 else rd l1 x26_1) = ji24 := by have h_ := hji24_; rw [Int.sub_self] at h_; exact h_
                          by_cases c25 : x7_1.length < 17592186044416
                          · rw [if_pos c25] at H
                            have LMc25 := Aside0.mk c25
                            clear c25
                            obtain ⟨y123, hy123⟩ : ∃ y_ : List Int, y_ = (x7_1 ++ [ji24]) := ⟨_, rfl⟩
                            replace H : (grid_Clip.l0 k1 l0 l1 y118 y123 l2 (l2.length : Int) (wrap64 (x26_1 + 1))) = some (r1, r2, r3) := by first | (rw [hy123]; with_reducible exact H) | (have H2_ := (Option.bind_some _ _).symm.trans H; rw [hy123]; with_reducible exact H2_) | (have H2_ := (Option.bind_some _ _).symm.trans H; with_reducible exact H2_) | with_reducible exact H | (rw [hy123]; exact H) | exact H
                            have Ny123 := Aside0.mk hy123
                            clear hy123
                            have H' := Aside0.mk H
                            clear H
                            have p105 : 0 ≤ (x26_1 : Int) := of_decide_eq_true (by first | (with_reducible assumption) | assumption)
                            have q105 : x26_1 < (l2.length : Int) := of_decide_eq_true (by first | (with_reducible assumption) | assumption)
                            obtain ⟨ad105, e105, hx105_0⟩ := Kd.at_int HR2.out x26_1 p105 q105
                            cases e105
                            replace hx105_0 := (HB.out.cell (World.block_lt_of_cell? w _ hx105_0)).trans hx105_0
                            replace p105 := eq_true p105
                            replace q105 := eq_true q105
                            have p106 : 0 ≤ (x26_1 : Int) := of_decide_eq_true (by first | (with_reducible assumption) | assumption)
                            have q106 : x26_1 < (l0.length : Int) := of_decide_eq_true (by first | (with_reducible assumption) | assumption)
                            obtain ⟨ad106, e106, hx106_0⟩ := Kd.at_int HR0.out x26_1 p106 q106
                            cases e106
                            replace hx106_0 := (HB.out.cell (World.block_lt_of_cell? w _ hx106_0)).trans hx106_0
                            replace p106 := eq_true p106
                            replace q106 := eq_true q106
                            try go_wp2
                            have n0_ := Aside0.mk (Kd.R_drew HO_6.out)
                            have n1_ := Aside0.mk (Kd.R_drew HO_7.out)
                            have n2_ := Aside0.mk (below_drew1 HB.out)
                            clear HO_6
                            clear HO_7
                            clear HB
                            have HO_6 := n0_
                            have HO_7 := n1_
                            have HB := n2_
                            clear n0_ n1_ n2_
                            have p107 : 0 ≤ (x26_1 : Int) := of_decide_eq_true (by first | (with_reducible assumption) | assumption)
                            have q107 : x26_1 < (l0.length : Int) := of_decide_eq_true (by first | (with_reducible assumption) | assumption)
                            obtain ⟨ad107, e107, hx107_0⟩ := Kd.at_int HR0.out x26_1 p107 q107
                            have hw107_0 := hx107_0
                            obtain rfl : ad106 = ad107 := (by injection e107)
                            replace hx107_0 := (HB.out.cell (World.block_lt_of_cell? w _ hx107_0)).trans hx107_0
                            replace p107 := eq_true p107
                            replace q107 := eq_true q107
                            have p108 : 0 ≤ (x26_1 : Int) := of_decide_eq_true (by first | (with_reducible assumption) | assumption)
                            have q108 : x26_1 < (l1.length : Int) := of_decide_eq_true (by first | (with_reducible assumption) | assumption)
                            obtain ⟨ad108, e108, hx108_0⟩ := Kd.at_int HR1.out x26_1 p108 q108
                            have hw108_0 := hx108_0
                            cases e108
                            replace hx108_0 := (HB.out.cell (World.block_lt_of_cell? w _ hx108_0)).trans hx108_0
                            replace p108 := eq_true p108
                            replace q108 := eq_true q108
                            refine start_ (n := 11) (S := fun w' => w'.cell? (ad106.add (x26_1).toNat) = some (.int .i64 (rd l0 x26_1)) ∧ w'.cell? (ad108.add (x26_1).toNat) = some (.int .i64 (rd l1 x26_1))) (ds := []) #[false, false, false, false, false, false, false, false, false, false, false] (by kernel_rfl) rfl rfl ⟨((HB.out.cell (World.block_lt_of_cell? w _ hw107_0)).trans hw107_0), ((HB.out.cell (World.block_lt_of_cell? w _ hw108_0)).trans hw108_0)⟩ (fun hHeld => ?_); refine with_tabW grid_Clip.tab10 grid_Clip.bits10 (fun HT_ HW_ => ?_)
                            generalize wr.drew = w26 at HO_6 HO_7 HB hx107_0 hx108_0 hHeld ⊢
                            refine pure_ (i := 0) (N := some 35) (v := ?_) (a' := ?_) #[true, false, false, false, false, false, false, false, false, false, false] rfl rfl (any_of HT_.out (by kernel_rfl)) (fun _ _ _ h => h) (Or.inl ⟨by rfl, ?_⟩) ?_ ?_
                            rotate_left
                            · intro w'
                              go_simp
                              with_reducible rfl
                            rotate_left
                            · simp only [Act.put, List.setIfInBounds_toArray, List.set_cons_zero, List.set_cons_succ, i64_w, i32_w]
                              rfl
                            refine pure_ (i := 1) (N := some 36) (v := ?_) (a' := ?_) #[true, true, false, false, false, false, false, false, false, false, false] rfl rfl (any_of HT_.out (by kernel_rfl)) (fun _ _ _ h => h) (Or.inl ⟨by rfl, ?_⟩) ?_ ?_
                            rotate_left
                            · intro w'
                              go_simp
                              with_reducible rfl
                            rotate_left
                            · simp only [Act.put, List.setIfInBounds_toArray, List.set_cons_zero, List.set_cons_succ, i64_w, i32_w]
                              rfl
                            refine pure_ (i := 2) (N := some 37) (v := ?_) (a' := ?_) #[true, true, true, false, false, false, false, false, false, false, false] rfl rfl (any_of HT_.out (by kernel_rfl)) (fun _ _ _ h => h) (Or.inl ⟨by rfl, ?_⟩) ?_ ?_
                            rotate_left
                            · intro w'
                              go_simp
                              with_reducible rfl
                            rotate_left
                            · simp only [Act.put, List.setIfInBounds_toArray, List.set_cons_zero, List.set_cons_succ, i64_w, i32_w]
                              rfl
                            refine pure_ (i := 3) (N := some 38) (v := ?_) (a' := ?_) #[true, true, true, true, false, false, false, false, false, false, false] rfl rfl (any_of HT_.out (by kernel_rfl)) (fun _ _ _ h => h) (Or.inl ⟨by rfl, ?_⟩) ?_ ?_
                            rotate_left
                            · intro w'
                              go_simp
                              with_reducible rfl
                            rotate_left
                            · simp only [Act.put, List.setIfInBounds_toArray, List.set_cons_zero, List.set_cons_succ, i64_w, i32_w]
                              rfl
                            refine pure_ (i := 5) (N := some 40) (v := ?_) (a' := ?_) #[true, true, true, true, false, true, false, false, false, false, false] rfl rfl (any_of HT_.out (by kernel_rfl)) (fun _ _ _ h => h) (Or.inl ⟨by rfl, ?_⟩) ?_ ?_
                            rotate_left
                            · intro w'
                              go_simp
                              with_reducible rfl
                            rotate_left
                            · simp only [Act.put, List.setIfInBounds_toArray, List.set_cons_zero, List.set_cons_succ, i64_w, i32_w]
                              rfl
                            refine pure_ (i := 6) (N := some 41) (v := ?_) (a' := ?_) #[true, true, true, true, false, true, true, false, false, false, false] rfl rfl (any_of HT_.out (by kernel_rfl)) (fun _ _ _ h => h) (Or.inl ⟨by rfl, ?_⟩) ?_ ?_
                            rotate_left
                            · intro w'
                              go_simp
                              with_reducible rfl
                            rotate_left
                            · simp only [Act.put, List.setIfInBounds_toArray, List.set_cons_zero, List.set_cons_succ, i64_w, i32_w]
                              rfl
                            refine pure_ (i := 7) (N := some 42) (v := ?_) (a' := ?_) #[true, true, true, true, false, true, true, true, false, false, false] rfl rfl (any_of HT_.out (by kernel_rfl)) (fun _ _ _ h => h) (Or.inl ⟨by rfl, ?_⟩) ?_ ?_
                            rotate_left
                            · intro w'
                              go_simp
                              with_reducible rfl
                            rotate_left
                            · simp only [Act.put, List.setIfInBounds_toArray, List.set_cons_zero, List.set_cons_succ, i64_w, i32_w]
                              rfl
                            refine take_ (i := 4) (N := some 39) (v := ?_) (a' := ?_) #[true, true, true, true, true, true, true, true, false, false, false] rfl rfl (take_ofW HT_.out HW_.out (by kernel_rfl)) (fun _ _ _ h => h) (Or.inl ⟨by rfl, ?_⟩) hHeld ?_ ?_
                            rotate_left
                            · rintro w' ⟨s0, s1⟩
                              go_simp
                              with_reducible rfl
                            rotate_left
                            · simp only [Act.put, List.setIfInBounds_toArray, List.set_cons_zero, List.set_cons_succ, i64_w, i32_w]
                              rfl
                            refine take_ (i := 8) (N := some 43) (v := ?_) (a' := ?_) #[true, true, true, true, true, true, true, true, true, false, false] rfl rfl (take_ofW HT_.out HW_.out (by kernel_rfl)) (fun _ _ _ h => h) (Or.inl ⟨by rfl, ?_⟩) hHeld ?_ ?_
                            rotate_left
                            · rintro w' ⟨s0, s1⟩
                              go_simp
                              with_reducible rfl
                            rotate_left
                            · simp only [Act.put, List.setIfInBounds_toArray, List.set_cons_zero, List.set_cons_succ, i64_w, i32_w]
                              rfl
                            refine pure_ (i := 9) (N := some 44) (v := ?_) (a' := ?_) #[true, true, true, true, true, true, true, true, true, true, false] rfl rfl (any_of HT_.out (by kernel_rfl)) (fun _ _ _ h => h) (Or.inl ⟨by rfl, ?_⟩) ?_ ?_
                            rotate_left
                            · intro w'
                              go_simp
                              with_reducible rfl
                            rotate_left
                            · simp only [Act.put, List.setIfInBounds_toArray, List.set_cons_zero, List.set_cons_succ, i64_w, i32_w]
                              rfl
                            refine pure_ (i := 10) (N := some 45) (v := ?_) (a' := ?_) #[true, true, true, true, true, true, true, true, true, true, true] rfl rfl (any_of HT_.out (by kernel_rfl)) (fun _ _ _ h => h) (Or.inl ⟨by rfl, ?_⟩) ?_ ?_
                            rotate_left
                            · intro w'
                              go_simp
                              with_reducible rfl
                            rotate_left
                            · simp only [Act.put, List.setIfInBounds_toArray, List.set_cons_zero, List.set_cons_succ, i64_w, i32_w]
                              rfl
                            refine done_ (done_of HT_.out (by kernel_rfl)) ?_
                            try go_wp2_with (first | ((with_reducible refine gate_builtin (b := .append) (xs := #[.tmp 54, .tmp 56]) rfl ?_); at_builtin; refine Kd.R_append (Kd.int .i64) (w0 := w) w.heap.size rfl (.tmp 54) (.tmp 56) 22 3 (.int .i64 0) 8 rfl Try.underlying22 info3 rfl (by decide) (by omega) u6 x6_1 (rd l0 x26_1) [.int .i64 (rd l0 x26_1)] (fun k_ => some k_ ≠ (u7 : Value).ownBlock) (fun _ => False) rfl rfl ?aP (fun _ hk => hk.elim) ?aF ?aO ?aB ?aS ?aL ?_; (case aP => exact rfl); (case aB => exact (by repeat (first | (with_reducible first | exact HB.out | apply below_alloc | apply pw_below_drewN | apply below_drew1) | exact HB.out))); (case aF => exact (fun k_ hk => Kd.fresh' (Kd.R_lt (by (with_reducible repeat (first | apply Kd.R_alloc | apply Kd.R_drewN | apply Kd.R_drew)); exact HO_7.out)) k_ hk)); (case aO => exact (by (with_reducible repeat (first | apply Kd.R_alloc | apply Kd.R_drewN | apply Kd.R_drew)); exact HO_6.out)); (case aS => exact (below_size (by repeat (first | (with_reducible first | exact HB.out | apply below_alloc | apply pw_below_drewN | apply below_drew1) | exact HB.out)))); (case aL => have := LMc23.out; omega); intro v119 w27 ho hb hg hat; rw [← Ny118.out] at ho; have n0_ := Aside0.mk (Kd.R_after (ok := (fun _ => True)) (by (with_reducible repeat (first | apply Kd.R_alloc | apply Kd.R_drewN | apply Kd.R_drew)); exact Kd.R_mono HO_7.out (fun _ hk => ⟨trivial, hk⟩)) hg hat); have n1_ := Aside0.mk (hb); have n2_ := Aside0.mk (ho); clear HO_7; clear HB; clear HO_6; have HO_7 := n0_; have HB := n1_; have HO120 := n2_; clear n0_ n1_ n2_; clear ho hb hg hat))
                            have n0_ := Aside0.mk (Kd.R_drew HO_7.out)
                            have n1_ := Aside0.mk (Kd.R_drew HO120.out)
                            have n2_ := Aside0.mk (below_drew1 HB.out)
                            clear HO_7
                            clear HO120
                            clear HB
                            have HO_7 := n0_
                            have HO120 := n1_
                            have HB := n2_
                            clear n0_ n1_ n2_
                            have p121 : 0 ≤ (x26_1 : Int) := of_decide_eq_true (by first | (with_reducible assumption) | assumption)
                            have q121 : x26_1 < (l1.length : Int) := of_decide_eq_true (by first | (with_reducible assumption) | assumption)
                            obtain ⟨ad121, e121, hx121_0⟩ := Kd.at_int HR1.out x26_1 p121 q121
                            have hw121_0 := hx121_0
                            obtain rfl : ad108 = ad121 := (by injection e121)
                            replace hx121_0 := (HB.out.cell (World.block_lt_of_cell? w _ hx121_0)).trans hx121_0
                            replace p121 := eq_true p121
                            replace q121 := eq_true q121
                            have p122 : 0 ≤ (x26_1 : Int) := of_decide_eq_true (by first | (with_reducible assumption) | assumption)
                            have q122 : x26_1 < (l0.length : Int) := of_decide_eq_true (by first | (with_reducible assumption) | assumption)
                            obtain ⟨ad122, e122, hx122_0⟩ := Kd.at_int HR0.out x26_1 p122 q122
                            have hw122_0 := hx122_0
                            obtain rfl : ad106 = ad122 := (by injection e122)
                            replace hx122_0 := (HB.out.cell (World.block_lt_of_cell? w _ hx122_0)).trans hx122_0
                            replace p122 := eq_true p122
                            replace q122 := eq_true q122
                            refine start_ (n := 15) (S := fun w' => w'.cell? (ad108.add (x26_1).toNat) = some (.int .i64 (rd l1 x26_1)) ∧ w'.cell? (ad106.add (x26_1).toNat) = some (.int .i64 (rd l0 x26_1))) (ds := []) #[false, false, false, false, false, false, false, false, false, false, false, false, false, false, false] (by kernel_rfl) rfl rfl ⟨((HB.out.cell (World.block_lt_of_cell? w _ hw121_0)).trans hw121_0), ((HB.out.cell (World.block_lt_of_cell? w _ hw122_0)).trans hw122_0)⟩ (fun hHeld => ?_); refine with_tabW grid_Clip.tab13 grid_Clip.bits13 (fun HT_ HW_ => ?_)
                            generalize w27.drew = w28 at HO_7 HO120 HB hx121_0 hx122_0 hHeld ⊢
                            refine pure_ (i := 0) (N := some 58) (v := ?_) (a' := ?_) #[true, false, false, false, false, false, false, false, false, false, false, false, false, false, false] rfl rfl (any_of HT_.out (by kernel_rfl)) (fun _ _ _ h => h) (Or.inl ⟨by rfl, ?_⟩) ?_ ?_
                            rotate_left
                            · intro w'
                              go_simp
                              with_reducible rfl
                            rotate_left
                            · simp only [Act.put, List.setIfInBounds_toArray, List.set_cons_zero, List.set_cons_succ, i64_w, i32_w]
                              rfl
                            refine pure_ (i := 1) (N := some 59) (v := ?_) (a' := ?_) #[true, true, false, false, false, false, false, false, false, false, false, false, false, false, false] rfl rfl (any_of HT_.out (by kernel_rfl)) (fun _ _ _ h => h) (Or.inl ⟨by rfl, ?_⟩) ?_ ?_
                            rotate_left
                            · intro w'
                              go_simp
                              with_reducible rfl
                            rotate_left
                            · simp only [Act.put, List.setIfInBounds_toArray, List.set_cons_zero, List.set_cons_succ, i64_w, i32_w]
                              rfl
                            refine pure_ (i := 2) (N := some 60) (v := ?_) (a' := ?_) #[true, true, true, false, false, false, false, false, false, false, false, false, false, false, false] rfl rfl (any_of HT_.out (by kernel_rfl)) (fun _ _ _ h => h) (Or.inl ⟨by rfl, ?_⟩) ?_ ?_
                            rotate_left
                            · intro w'
                              go_simp
                              with_reducible rfl
                            rotate_left
                            · simp only [Act.put, List.setIfInBounds_toArray, List.set_cons_zero, List.set_cons_succ, i64_w, i32_w]
                              rfl
                            refine pure_ (i := 3) (N := some 61) (v := ?_) (a' := ?_) #[true, true, true, true, false, false, false, false, false, false, false, false, false, false, false] rfl rfl (any_of HT_.out (by kernel_rfl)) (fun _ _ _ h => h) (Or.inl ⟨by rfl, ?_⟩) ?_ ?_
                            rotate_left
                            · intro w'
                              go_simp
                              with_reducible rfl
                            rotate_left
                            · simp only [Act.put, List.setIfInBounds_toArray, List.set_cons_zero, List.set_cons_succ, i64_w, i32_w]
                              rfl
                            refine pure_ (i := 5) (N := some 63) (v := ?_) (a' := ?_) #[true, true, true, true, false, true, false, false, false, false, false, false, false, false, false] rfl rfl (any_of HT_.out (by kernel_rfl)) (fun _ _ _ h => h) (Or.inl ⟨by rfl, ?_⟩) ?_ ?_
                            rotate_left
                            · intro w'
                              go_simp
                              with_reducible rfl
                            rotate_left
                            · simp only [Act.put, List.setIfInBounds_toArray, List.set_cons_zero, List.set_cons_succ, i64_w, i32_w]
                              rfl
                            refine pure_ (i := 6) (N := some 64) (v := ?_) (a' := ?_) #[true, true, true, true, false, true, true, false, false, false, false, false, false, false, false] rfl rfl (any_of HT_.out (by kernel_rfl)) (fun _ _ _ h => h) (Or.inl ⟨by rfl, ?_⟩) ?_ ?_
                            rotate_left
                            · intro w'
                              go_simp
                              with_reducible rfl
                            rotate_left
                            · simp only [Act.put, List.setIfInBounds_toArray, List.set_cons_zero, List.set_cons_succ, i64_w, i32_w]
                              rfl
                            refine pure_ (i := 7) (N := some 65) (v := ?_) (a' := ?_) #[true, true, true, true, false, true, true, true, false, false, false, false, false, false, false] rfl rfl (any_of HT_.out (by kernel_rfl)) (fun _ _ _ h => h) (Or.inl ⟨by rfl, ?_⟩) ?_ ?_
                            rotate_left
                            · intro w'
                              go_simp
                              with_reducible rfl
                            rotate_left
                            · simp only [Act.put, List.setIfInBounds_toArray, List.set_cons_zero, List.set_cons_succ, i64_w, i32_w]
                              rfl
                            refine pure_ (i := 9) (N := some 67) (v := ?_) (a' := ?_) #[true, true, true, true, false, true, true, true, false, true, false, false, false, false, false] rfl rfl (any_of HT_.out (by kernel_rfl)) (fun _ _ _ h => h) (Or.inl ⟨by rfl, ?_⟩) ?_ ?_
                            rotate_left
                            · intro w'
                              go_simp
                              with_reducible rfl
                            rotate_left
                            · simp only [Act.put, List.setIfInBounds_toArray, List.set_cons_zero, List.set_cons_succ, i64_w, i32_w]
                              rfl
                            refine take_ (i := 4) (N := some 62) (v := ?_) (a' := ?_) #[true, true, true, true, true, true, true, true, false, true, false, false, false, false, false] rfl rfl (take_ofW HT_.out HW_.out (by kernel_rfl)) (fun _ _ _ h => h) (Or.inl ⟨by rfl, ?_⟩) hHeld ?_ ?_
                            rotate_left
                            · rintro w' ⟨s0, s1⟩
                              go_simp
                              with_reducible rfl
                            rotate_left
                            · simp only [Act.put, List.setIfInBounds_toArray, List.set_cons_zero, List.set_cons_succ, i64_w, i32_w]
                              rfl
                            refine take_ (i := 8) (N := some 66) (v := ?_) (a' := ?_) #[true, true, true, true, true, true, true, true, true, true, false, false, false, false, false] rfl rfl (take_ofW HT_.out HW_.out (by kernel_rfl)) (fun _ _ _ h => h) (Or.inl ⟨by rfl, ?_⟩) hHeld ?_ ?_
                            rotate_left
                            · rintro w' ⟨s0, s1⟩
                              go_simp
                              with_reducible rfl
                            rotate_left
                            · simp only [Act.put, List.setIfInBounds_toArray, List.set_cons_zero, List.set_cons_succ, i64_w, i32_w]
                              rfl
                            refine pure_ (i := 10) (N := some 68) (v := ?_) (a' := ?_) #[true, true, true, true, true, true, true, true, true, true, true, false, false, false, false] rfl rfl (any_of HT_.out (by kernel_rfl)) (fun _ _ _ h => h) (Or.inl ⟨by rfl, ?_⟩) ?_ ?_
                            rotate_left
                            · intro w'
                              go_simp
                              with_reducible rfl
                            rotate_left
                            · simp only [Act.put, List.setIfInBounds_toArray, List.set_cons_zero, List.set_cons_succ, i64_w, i32_w]
                              rfl
                            refine pure_ (i := 11) (N := some 69) (v := ?_) (a' := ?_) #[true, true, true, true, true, true, true, true, true, true, true, true, false, false, false] rfl rfl (any_of HT_.out (by kernel_rfl)) (fun _ _ _ h => h) (Or.inl ⟨by rfl, ?_⟩) ?_ ?_
                            rotate_left
                            · intro w'
                              go_simp
                              with_reducible rfl
                            rotate_left
                            · simp only [Act.put, List.setIfInBounds_toArray, List.set_cons_zero, List.set_cons_succ, i64_w, i32_w]
                              rfl
                            refine one_ (i := 12) (N := some 70) #[true, true, true, true, true, true, true, true, true, true, true, true, true, false, false] rfl rfl (one_of HT_.out (by kernel_rfl)) (by decide) (fun K hK => ?_)
                            refine value_ (w1 := ?_) (v := ?_) (by rfl) rfl ?_ ?_
                            rotate_left 2
                            · go_simp
                              constructor
                              · rfl
                              · rfl
                            refine hK.out _ _ ⟨(World.cell?_alloc_lt _ _ _ (World.block_lt_of_cell? _ _ (((HB.out.cell (World.block_lt_of_cell? w _ hw121_0)).trans hw121_0)))).trans (((HB.out.cell (World.block_lt_of_cell? w _ hw121_0)).trans hw121_0)), (World.cell?_alloc_lt _ _ _ (World.block_lt_of_cell? _ _ (((HB.out.cell (World.block_lt_of_cell? w _ hw122_0)).trans hw122_0)))).trans (((HB.out.cell (World.block_lt_of_cell? w _ hw122_0)).trans hw122_0))⟩ (fun hHeld => ?_)
                            clear hK K
                            refine norm_ (a' := ?_) ?_ ?_
                            rotate_left
                            · show Act.put _ (some 70) _ = _
                              simp only [Act.put, List.setIfInBounds_toArray, List.set_cons_zero, List.set_cons_succ, i64_w, i32_w]
                              rfl
                            refine one_ (i := 13) (N := some 71) #[true, true, true, true, true, true, true, true, true, true, true, true, true, true, false] rfl rfl (one_of HT_.out (by kernel_rfl)) (by decide) (fun K hK => ?_)
                            refine Kd.R_append_step (Kd.int .i64) (w0 := w) w.heap.size (by rfl) (.tmp 58) (.tmp 70) 22 3 (.int .i64 0) 8 rfl Try.underlying22 info3 rfl (by decide) (by omega) u7 x7_1 ji24 [.int .i64 ji24] (fun k_ => some k_ ≠ (v119 : Value).ownBlock) (fun _ => False) rfl rfl ?aP (fun _ hk => hk.elim) ?aF ?aO ?aB ?aS ?aL ?_
                            (case aP => exact rfl)
                            (case aB => exact (by repeat (first | (with_reducible first | exact HB.out | apply below_alloc | apply pw_below_drewN | apply below_drew1) | exact HB.out)))
                            (case aF => exact (fun k_ hk => Kd.fresh' (Kd.R_lt (by (with_reducible repeat (first | apply Kd.R_alloc | apply Kd.R_drewN | apply Kd.R_drew)); exact HO120.out)) k_ hk))
                            (case aO => exact (by (with_reducible repeat (first | apply Kd.R_alloc | apply Kd.R_drewN | apply Kd.R_drew)); exact Kd.R_mono HO_7.out (fun _ hk => hk.2)))
                            (case aS => exact (below_size (by repeat (first | (with_reducible first | exact HB.out | apply below_alloc | apply pw_below_drewN | apply below_drew1) | exact HB.out))))
                            (case aL => have := LMc25.out; omega)
                            intro v124 w29 ho hb hg hat
                            rw [← Ny123.out] at ho
                            have n0_ := Aside0.mk (Kd.R_after (ok := (fun _ => True)) (by (with_reducible repeat (first | apply Kd.R_alloc | apply Kd.R_drewN | apply Kd.R_drew)); exact Kd.R_mono HO120.out (fun _ hk => ⟨trivial, hk⟩)) hg hat)
                            have n1_ := Aside0.mk (hb)
                            have n2_ := Aside0.mk (ho)
                            clear HO120
                            clear HB
                            clear HO_7
                            have HO120 := n0_
                            have HB := n1_
                            have HO125 := n2_
                            clear n0_ n1_ n2_
                            clear ho hb hg hat
                            refine hK.out _ _ ⟨((HB.out.cell (World.block_lt_of_cell? w _ hw121_0)).trans hw121_0), ((HB.out.cell (World.block_lt_of_cell? w _ hw122_0)).trans hw122_0)⟩ (fun hHeld => ?_)
                            clear hK K
                            refine norm_ (a' := ?_) ?_ ?_
                            rotate_left
                            · show Act.put _ (some 71) _ = _
                              simp only [Act.put, List.setIfInBounds_toArray, List.set_cons_zero, List.set_cons_succ, i64_w, i32_w]
                              rfl
                            refine pure_ (i := 14) (N := some 7) (v := ?_) (a' := ?_) #[true, true, true, true, true, true, true, true, true, true, true, true, true, true, true] rfl rfl (any_of HT_.out (by kernel_rfl)) (fun _ _ _ h => h) (Or.inl ⟨by rfl, ?_⟩) ?_ ?_
                            rotate_left
                            · intro w'
                              go_simp
                              with_reducible rfl
                            rotate_left
                            · simp only [Act.put, List.setIfInBounds_toArray, List.set_cons_zero, List.set_cons_succ, i64_w, i32_w]
                              rfl
                            refine done_ (done_of HT_.out (by kernel_rfl)) ?_
                            try go_wp2
                            go_roundg k1
                            case measure => have := HK1.out; omega
                            case rel => exact ⟨(y118), (y123), (wrap64 (x26_1 + 1)), (by first | rfl | (simp; done) | (simp [*]; done)), H', ⟨by have := HK1.out; omega⟩, ⟨by (with_reducible repeat (first | apply Kd.R_alloc | apply Kd.R_drewN | apply Kd.R_drew)); exact Kd.R_mono HO120.out (fun _ hk => hk.2)⟩, ⟨by (with_reducible repeat (first | apply Kd.R_alloc | apply Kd.R_drewN | apply Kd.R_drew)); exact HO125.out⟩, ⟨by repeat (first | (with_reducible first | exact HB.out | apply below_alloc | apply pw_below_drewN | apply below_drew1) | exact HB.out)⟩⟩
                          · rw [if_neg c25] at H
                            exact absurd H (by simp)
                        · rw [if_neg c23] at H
                          exact absurd H (by simp)
                  · rw [if_neg c12] at H
                    exact absurd H (by simp)
                · rw [if_neg c11] at H
                  exact absurd H (by simp)
              · rw [if_neg c10] at H
                exact absurd H (by simp)
            · rw [if_neg c9] at H
              exact absurd H (by simp)
          · rw [if_neg c8] at H
            have c8b0 : decide (x26_1 < (l2.length : Int)) = false := decide_eq_false c8
            clear c8
            simp only [Option.some.injEq, Prod.mk.injEq] at H
            obtain ⟨rfl, rfl, rfl⟩ := H
            go_wp2
            go_ret3
            exact ⟨_, _, by first | rfl | (simp [errW_none, errW_some] <;> rfl) | (simp [*, errW_none, errW_some] <;> rfl), by (with_reducible repeat (first | apply Kd.R_alloc | apply Kd.R_drewN | apply Kd.R_drew)); exact HO_6.out, by (with_reducible repeat (first | apply Kd.R_alloc | apply Kd.R_drewN | apply Kd.R_drew)); exact HO_7.out, by repeat (first | (with_reducible first | exact HB.out | apply below_alloc | apply pw_below_drewN | apply below_drew1) | exact HB.out)⟩
    · replace c7 := Bool.eq_false_iff.mpr c7
      subst c7
      have H1 : (some (([] : List Int), ([] : List Int), 2)) = some (r1, r2, r3) := by rw [if_neg (show ¬ (false = true) by decide)] at H; exact H
      clear H
      have H := H1
      clear H1
      simp only [Option.some.injEq, Prod.mk.injEq] at H
      obtain ⟨rfl, rfl, rfl⟩ := H
      go_enter Try.func11, Try.ntmps11
      go_wp2_with (first | ((with_reducible refine gate_callee (f := 33) rfl ?_); refine goesL_ (some 15) rfl rfl Try.func33 (by kernel_rfl) rfl #[.slice A0 l0.length c0, .slice A1 l1.length c1] rfl (by (try simp only [List.map_toArray, List.map_cons, List.map_nil]); first | done | rfl | (simp only [List.length_drop, List.length_take]; rfl)) ?_; (with_reducible refine (grid_fit.calls _ _ l0 _ _ l1 t103 _ ?side1 ?side2 ?side3 ?side4 A4.out).mono ?_); (case side1 => repeat (first | exact HR0.out | (with_reducible refine Kd.C_alloc ?_ _) | (with_reducible refine Kd.C_drewN ?_ _) | (with_reducible refine Kd.C_drew ?_))); (case side2 => exact HC0.out); (case side3 => repeat (first | exact HR1.out | (with_reducible refine Kd.C_alloc ?_ _) | (with_reducible refine Kd.C_drewN ?_ _) | (with_reducible refine Kd.C_drew ?_))); (case side4 => exact HC1.out); rintro e w' ⟨rfl, ⟨nd, rfl⟩⟩; refine ⟨_, rfl, ?_⟩) | ((with_reducible refine gate_callee (f := 34) rfl ?_); refine goesL_ (some 22) rfl rfl Try.func34 (by kernel_rfl) rfl #[.slice A2 l2.length c2, .int .i64 (l0.length : Int)] rfl (by (try simp only [List.map_toArray, List.map_cons, List.map_nil]); first | done | rfl | (simp only [List.length_drop, List.length_take]; rfl)) ?_; (with_reducible refine (grid_right.calls _ _ l2 (l0.length : Int) false _ ?side1 ?side2 A6.out).mono ?_); (case side1 => repeat (first | exact HR2.out | (with_reducible refine Kd.C_alloc ?_ _) | (with_reducible refine Kd.C_drewN ?_ _) | (with_reducible refine Kd.C_drew ?_))); (case side2 => exact HC2.out); rintro e w' ⟨rfl, ⟨nd, rfl⟩⟩; refine ⟨_, rfl, ?_⟩))
      go_ret3
      exact ⟨_, _, by first | rfl | (simp [errW_none, errW_some] <;> rfl) | (simp [*, errW_none, errW_some] <;> rfl), by first | exact Kd.R_nil _ _ _ _ _ | exact Kd.N_nil _ _ _ _ _ | exact Kd.V_nil _ _ _ _ _ | exact Kd.Q_nil _ _ _ _ _ | exact Kd.S_nil _ _ _ _ _, by first | exact Kd.R_nil _ _ _ _ _ | exact Kd.N_nil _ _ _ _ _ | exact Kd.V_nil _ _ _ _ _ | exact Kd.Q_nil _ _ _ _ _ | exact Kd.S_nil _ _ _ _ _, by repeat (first | (with_reducible first | exact HB.out | apply below_alloc | apply pw_below_drewN | apply below_drew1) | exact HB.out)⟩
  · rw [if_neg c5] at H
    have c5b0 : (t103 == 0) = false := beq_eq_false_iff_ne.mpr c5
    have c5b1 : (t103 != 0) = true := bne_iff_ne.mpr c5
    simp only [Option.some.injEq, Prod.mk.injEq] at H
    obtain ⟨rfl, rfl, rfl⟩ := H
    go_enter Try.func11, Try.ntmps11
    go_wp2_with (first | ((with_reducible refine gate_callee (f := 33) rfl ?_); refine goesL_ (some 15) rfl rfl Try.func33 (by kernel_rfl) rfl #[.slice A0 l0.length c0, .slice A1 l1.length c1] rfl (by (try simp only [List.map_toArray, List.map_cons, List.map_nil]); first | done | rfl | (simp only [List.length_drop, List.length_take]; rfl)) ?_; (with_reducible refine (grid_fit.calls _ _ l0 _ _ l1 t103 _ ?side1 ?side2 ?side3 ?side4 A4.out).mono ?_); (case side1 => repeat (first | exact HR0.out | (with_reducible refine Kd.C_alloc ?_ _) | (with_reducible refine Kd.C_drewN ?_ _) | (with_reducible refine Kd.C_drew ?_))); (case side2 => exact HC0.out); (case side3 => repeat (first | exact HR1.out | (with_reducible refine Kd.C_alloc ?_ _) | (with_reducible refine Kd.C_drewN ?_ _) | (with_reducible refine Kd.C_drew ?_))); (case side4 => exact HC1.out); rintro e w' ⟨rfl, ⟨nd, rfl⟩⟩; refine ⟨_, rfl, ?_⟩))
    go_ret3
    exact ⟨_, _, by first | rfl | (simp [errW_none, errW_some] <;> rfl) | (simp [*, errW_none, errW_some] <;> rfl), by first | exact Kd.R_nil _ _ _ _ _ | exact Kd.N_nil _ _ _ _ _ | exact Kd.V_nil _ _ _ _ _ | exact Kd.Q_nil _ _ _ _ _ | exact Kd.S_nil _ _ _ _ _, by first | exact Kd.R_nil _ _ _ _ _ | exact Kd.N_nil _ _ _ _ _ | exact Kd.V_nil _ _ _ _ _ | exact Kd.Q_nil _ _ _ _ _ | exact Kd.S_nil _ _ _ _ _, by repeat (first | (with_reducible first | exact HB.out | apply below_alloc | apply pw_below_drewN | apply below_drew1) | exact HB.out)⟩
end Go.Proofs.Ytjbjofmcmjojlab.Wk
end
section
namespace Go.Proofs.Ytjbjofmcmjojlab.Wk
open Go.RowKit Go.Proofs.YtjbjofmcmjojlabW.PrintWords Go.Proofs.YtjbjofmcmjojlabW.PrintLast Go.Proofs.YtjbjofmcmjojlabW.PrintMore
attribute [local go_sem] max2_int min2_int max_two min_two max_three min_three max_four min_four
set_option linter.unusedVariables false
set_option linter.unusedSimpArgs false
mutual
def slabvaultref12_Elements.l0 : Nat → List Int → Int → Int → Option (Int × Int)
  | 0, _, _, _ => none
  | k + 1, x0, x4, x5 => if x5 < (x0.length : Int) then (if 0 ≤ x5 then (if (rd x0 x5) < 0 then (some (0, 2)) else (if (rd x0 x5) > 1048576 then (some (0, 2)) else (slabvaultref12_Elements.l0 k x0 x4 (wrap64 (x5 + 1))))) else (none)) else (slabvaultref12_Elements.l1 k x0 x4 0)
def slabvaultref12_Elements.l1 : Nat → List Int → Int → Int → Option (Int × Int)
  | 0, _, _, _ => none
  | k + 1, x0, x4, x6 => if x6 < (x0.length : Int) then (if 0 ≤ x6 then (if (rd x0 x6) = 0 then (some (0, 0)) else (slabvaultref12_Elements.l1 k x0 x4 (wrap64 (x6 + 1)))) else (none)) else (slabvaultref12_Elements.l2 k x0 x4 0)
def slabvaultref12_Elements.l2 : Nat → List Int → Int → Int → Option (Int × Int)
  | 0, _, _, _ => none
  | k + 1, x0, x4, x7 => if x7 < (x0.length : Int) then (if 0 ≤ x7 then (if (wrap64 (x4 * (rd x0 x7))) > 1048576 then (some (0, 3)) else (slabvaultref12_Elements.l2 k x0 (wrap64 (x4 * (rd x0 x7))) (wrap64 (x7 + 1)))) else (none)) else (some (x4, 0))
end
def slabvaultref12_Elements.f (k : Nat) (l0 : List Int) : Option (Int × Int) := if (l0.length : Int) > 4 then (some (0, 2)) else (slabvaultref12_Elements.l0 k l0 1 0)
set_option maxHeartbeats 8000000 in
set_option maxRecDepth 100000 in
theorem slabvaultref12_Elements.calls (k : Nat) (A0 : Option Addr) (c0 : Nat) (l0 : List Int) (r1 : Int) (r2 : Int) (w : World) (hr0 : Kd.C (Kd.int .i64) w A0 l0.length l0) (hc0 : l0.length ≤ c0) (h : slabvaultref12_Elements.f k l0 = some (r1, r2)) :
    Calls Try.prog 24 #[.slice A0 l0.length c0] w fun e w' => e = .returned (.tuple #[.int .i64 r1, .int .i64 r2]) ∧ Drawn0 w w' := by
  have HR0 := Aside0.mk hr0
  have HC0 := Aside0.mk hc0
  clear hr0 hc0
  have H : (if (l0.length : Int) > 4 then (some (0, 2)) else (slabvaultref12_Elements.l0 k l0 1 0)) = some (r1, r2) := h
  clear h
  by_cases c2 : (l0.length : Int) > 4
  · rw [if_pos c2] at H
    have c2b0 : decide (4 < (l0.length : Int)) = true := decide_eq_true c2
    have c2b1 : decide (4 < l0.length) = true := decide_eq_true (by omega)
    clear c2
    simp only [Option.some.injEq, Prod.mk.injEq] at H
    obtain ⟨rfl, rfl⟩ := H
    go_enter Try.func24, Try.ntmps24
    go_wp2
    go_ret2
    exact ⟨by first | rfl | (simp; done) | (simp [*]; done), by repeat (first | exact Drawn0.refl _ | apply Drawn0.step)⟩
  · rw [if_neg c2] at H
    have c2b0 : decide (4 < (l0.length : Int)) = false := decide_eq_false c2
    have c2b1 : decide (4 < l0.length) = false := decide_eq_false (by omega)
    clear c2
    have H' := Aside0.mk H
    clear H
    go_enter Try.func24, Try.ntmps24
    go_wp2
    go_loopg [5] k (fun kq v5 w' => ∃ (x5_1 : Int), v5 = .int .i64 x5_1 ∧ Aside0 (slabvaultref12_Elements.l0 kq l0 1 x5_1 = some (r1, r2)) ∧ Aside0 (kq ≤ k) ∧ Drawn0 w w')
    case atStart => exact ⟨(0), (by first | rfl | (simp; done) | (simp [*]; done)), H', ⟨Nat.le_refl _⟩, by repeat (first | exact Drawn0.refl _ | apply Drawn0.step)⟩
    case round =>
      clear H'
      try clear c2
      try clear c2b0
      try clear c2b1
      try clear p2
      obtain ⟨x5_1, rfl, HA, HK1, ⟨m1, rfl⟩⟩ := hrel
      cases gk with
      | zero => exact absurd HA.out (by simp [slabvaultref12_Elements.l0])
      | succ k1 =>
        have H := HA.out
        clear HA
        simp only [slabvaultref12_Elements.l0] at H
        by_cases c3 : x5_1 < (l0.length : Int)
        · rw [if_pos c3] at H
          have c3b0 : decide (x5_1 < (l0.length : Int)) = true := decide_eq_true c3
          clear c3
          by_cases c4 : 0 ≤ x5_1
          · rw [if_pos c4] at H
            have c4b0 : decide (0 ≤ x5_1) = true := decide_eq_true c4
            clear c4
            by_cases c5 : (rd l0 x5_1) < 0
            · rw [if_pos c5] at H
              have c5b0 : decide ((rd l0 x5_1) < 0) = true := decide_eq_true c5
              clear c5
              simp only [Option.some.injEq, Prod.mk.injEq] at H
              obtain ⟨rfl, rfl⟩ := H
              have p126 : 0 ≤ (x5_1 : Int) := of_decide_eq_true (by first | (with_reducible assumption) | assumption)
              have q126 : x5_1 < (l0.length : Int) := of_decide_eq_true (by first | (with_reducible assumption) | assumption)
              obtain ⟨ad126, e126, hx126_0⟩ := Kd.at_int HR0.out x5_1 p126 q126
              cases e126
              replace p126 := eq_true p126
              replace q126 := eq_true q126
              go_wp2
              go_ret2
              exact ⟨by first | rfl | (simp; done) | (simp [*]; done), by repeat (first | exact Drawn0.refl _ | apply Drawn0.step)⟩
            · rw [if_neg c5] at H
              have c5b0 : decide ((rd l0 x5_1) < 0) = false := decide_eq_false c5
              clear c5
              by_cases c6 : (rd l0 x5_1) > 1048576
              · rw [if_pos c6] at H
                have c6b0 : decide (1048576 < (rd l0 x5_1)) = true := decide_eq_true c6
                clear c6
                simp only [Option.some.injEq, Prod.mk.injEq] at H
                obtain ⟨rfl, rfl⟩ := H
                have p126 : 0 ≤ (x5_1 : Int) := of_decide_eq_true (by first | (with_reducible assumption) | assumption)
                have q126 : x5_1 < (l0.length : Int) := of_decide_eq_true (by first | (with_reducible assumption) | assumption)
                obtain ⟨ad126, e126, hx126_0⟩ := Kd.at_int HR0.out x5_1 p126 q126
                cases e126
                replace p126 := eq_true p126
                replace q126 := eq_true q126
                have p127 : 0 ≤ (x5_1 : Int) := of_decide_eq_true (by first | (with_reducible assumption) | assumption)
                have q127 : x5_1 < (l0.length : Int) := of_decide_eq_true (by first | (with_reducible assumption) | assumption)
                obtain ⟨ad127, e127, hx127_0⟩ := Kd.at_int HR0.out x5_1 p127 q127
                obtain rfl : ad126 = ad127 := (by injection e127)
                replace p127 := eq_true p127
                replace q127 := eq_true q127
                go_wp2
                go_ret2
                exact ⟨by first | rfl | (simp; done) | (simp [*]; done), by repeat (first | exact Drawn0.refl _ | apply Drawn0.step)⟩
              · rw [if_neg c6] at H
                have c6b0 : decide (1048576 < (rd l0 x5_1)) = false := decide_eq_false c6
                clear c6
                have H' := Aside0.mk H
                clear H
                have p126 : 0 ≤ (x5_1 : Int) := of_decide_eq_true (by first | (with_reducible assumption) | assumption)
                have q126 : x5_1 < (l0.length : Int) := of_decide_eq_true (by first | (with_reducible assumption) | assumption)
                obtain ⟨ad126, e126, hx126_0⟩ := Kd.at_int HR0.out x5_1 p126 q126
                cases e126
                replace p126 := eq_true p126
                replace q126 := eq_true q126
                have p127 : 0 ≤ (x5_1 : Int) := of_decide_eq_true (by first | (with_reducible assumption) | assumption)
                have q127 : x5_1 < (l0.length : Int) := of_decide_eq_true (by first | (with_reducible assumption) | assumption)
                obtain ⟨ad127, e127, hx127_0⟩ := Kd.at_int HR0.out x5_1 p127 q127
                obtain rfl : ad126 = ad127 := (by injection e127)
                replace p127 := eq_true p127
                replace q127 := eq_true q127
                go_wp2
                go_roundg k1
                case measure => have := HK1.out; omega
                case rel => exact ⟨(wrap64 (x5_1 + 1)), (by first | rfl | (simp; done) | (simp [*]; done)), H', ⟨by have := HK1.out; omega⟩, by repeat (first | exact Drawn0.refl _ | apply Drawn0.step)⟩
          · rw [if_neg c4] at H
            exact absurd H (by simp)
        · rw [if_neg c3] at H
          have c3b0 : decide (x5_1 < (l0.length : Int)) = false := decide_eq_false c3
          clear c3
          have H' := Aside0.mk H
          clear H
          go_wp2
          go_loopg [6] k1 (fun kq v6 w' => ∃ (x6_2 : Int), v6 = .int .i64 x6_2 ∧ Aside0 (slabvaultref12_Elements.l1 kq l0 1 x6_2 = some (r1, r2)) ∧ Aside0 (kq ≤ k1) ∧ Drawn0 w w')
          case atStart => exact ⟨(0), (by first | rfl | (simp; done) | (simp [*]; done)), H', ⟨Nat.le_refl _⟩, by repeat (first | exact Drawn0.refl _ | apply Drawn0.step)⟩
          case round =>
            clear H'
            try clear p1
            try clear q1
            try clear hx1
            try clear c2
            try clear c2b0
            try clear c2b1
            try clear p2
            try clear c3
            try clear c3b0
            try clear c4
            try clear c4b0
            try clear c5
            try clear c5b0
            try clear c6
            try clear c6b0
            try clear p6
            try clear hx126_0
            try clear hx127_0
            try clear p126
            try clear p127
            try clear p2
            try clear q126
            try clear q127
            obtain ⟨x6_2, rfl, HA, HK2, ⟨m2, rfl⟩⟩ := hrel
            cases gk with
            | zero => exact absurd HA.out (by simp [slabvaultref12_Elements.l1])
            | succ k2 =>
              have H := HA.out
              clear HA
              simp only [slabvaultref12_Elements.l1] at H
              by_cases c7 : x6_2 < (l0.length : Int)
              · rw [if_pos c7] at H
                have c7b0 : decide (x6_2 < (l0.length : Int)) = true := decide_eq_true c7
                clear c7
                by_cases c8 : 0 ≤ x6_2
                · rw [if_pos c8] at H
                  have c8b0 : decide (0 ≤ x6_2) = true := decide_eq_true c8
                  clear c8
                  by_cases c9 : (rd l0 x6_2) = 0
                  · rw [if_pos c9] at H
                    have c9b0 : ((rd l0 x6_2) == 0) = true := beq_iff_eq.mpr c9
                    have c9b1 : ((rd l0 x6_2) != 0) = false := bne_eq_false_iff_eq.mpr c9
                    clear c9
                    simp only [Option.some.injEq, Prod.mk.injEq] at H
                    obtain ⟨rfl, rfl⟩ := H
                    have p128 : 0 ≤ (x6_2 : Int) := of_decide_eq_true (by first | (with_reducible assumption) | assumption)
                    have q128 : x6_2 < (l0.length : Int) := of_decide_eq_true (by first | (with_reducible assumption) | assumption)
                    obtain ⟨ad128, e128, hx128_0⟩ := Kd.at_int HR0.out x6_2 p128 q128
                    cases e128
                    replace p128 := eq_true p128
                    replace q128 := eq_true q128
                    go_wp2
                    go_ret2
                    exact ⟨by first | rfl | (simp; done) | (simp [*]; done), by repeat (first | exact Drawn0.refl _ | apply Drawn0.step)⟩
                  · rw [if_neg c9] at H
                    have c9b0 : ((rd l0 x6_2) == 0) = false := beq_eq_false_iff_ne.mpr c9
                    have c9b1 : ((rd l0 x6_2) != 0) = true := bne_iff_ne.mpr c9
                    have H' := Aside0.mk H
                    clear H
                    have p128 : 0 ≤ (x6_2 : Int) := of_decide_eq_true (by first | (with_reducible assumption) | assumption)
                    have q128 : x6_2 < (l0.length : Int) := of_decide_eq_true (by first | (with_reducible assumption) | assumption)
                    obtain ⟨ad128, e128, hx128_0⟩ := Kd.at_int HR0.out x6_2 p128 q128
                    cases e128
                    replace p128 := eq_true p128
                    replace q128 := eq_true q128
                    go_wp2
                    go_roundg k2
                    case measure => have := HK1.out; have := HK2.out; omega
                    case rel => exact ⟨(wrap64 (x6_2 + 1)), (by first | rfl | (simp; done) | (simp [*]; done)), H', ⟨by have := HK1.out; have := HK2.out; omega⟩, by repeat (first | exact Drawn0.refl _ | apply Drawn0.step)⟩
                · rw [if_neg c8] at H
                  exact absurd H (by simp)
              · rw [if_neg c7] at H
                have c7b0 : decide (x6_2 < (l0.length : Int)) = false := decide_eq_false c7
                clear c7
                have H' := Aside0.mk H
                clear H
                go_wp2
                go_loopg [4, 7] k2 (fun kq v4 v7 w' => ∃ (x4_3 : Int) (x7_3 : Int), v4 = .int .i64 x4_3 ∧ v7 = .int .i64 x7_3 ∧ Aside0 (slabvaultref12_Elements.l2 kq l0 x4_3 x7_3 = some (r1, r2)) ∧ Aside0 (kq ≤ k2) ∧ Drawn0 w w')
                case atStart => exact ⟨(1), (0), (by first | rfl | (simp; done) | (simp [*]; done)), (by first | rfl | (simp; done) | (simp [*]; done)), H', ⟨Nat.le_refl _⟩, by repeat (first | exact Drawn0.refl _ | apply Drawn0.step)⟩
                case round =>
                  clear H'
                  try clear p1
                  try clear q1
                  try clear hx1
                  try clear c2
                  try clear c2b0
                  try clear c2b1
                  try clear p2
                  try clear c3
                  try clear c3b0
                  try clear c4
                  try clear c4b0
                  try clear c5
                  try clear c5b0
                  try clear c6
                  try clear c6b0
                  try clear p6
                  try clear c7
                  try clear c7b0
                  try clear c8
                  try clear c8b0
                  try clear c9
                  try clear c9b0
                  try clear c9b1
                  try clear hx126_0
                  try clear hx127_0
                  try clear hx128_0
                  try clear p1
                  try clear p126
                  try clear p127
                  try clear p128
                  try clear p2
                  try clear p6
                  try clear q1
                  try clear q126
                  try clear q127
                  try clear q128
                  obtain ⟨x4_3, x7_3, rfl, rfl, HA, HK3, ⟨m3, rfl⟩⟩ := hrel
                  cases gk with
                  | zero => exact absurd HA.out (by simp [slabvaultref12_Elements.l2])
                  | succ k3 =>
                    have H := HA.out
                    clear HA
                    simp only [slabvaultref12_Elements.l2] at H
                    by_cases c10 : x7_3 < (l0.length : Int)
                    · rw [if_pos c10] at H
                      have c10b0 : decide (x7_3 < (l0.length : Int)) = true := decide_eq_true c10
                      clear c10
                      by_cases c11 : 0 ≤ x7_3
                      · rw [if_pos c11] at H
                        have c11b0 : decide (0 ≤ x7_3) = true := decide_eq_true c11
                        clear c11
                        by_cases c12 : (wrap64 (x4_3 * (rd l0 x7_3))) > 1048576
                        · rw [if_pos c12] at H
                          have c12b0 : decide (1048576 < (wrap64 (x4_3 * (rd l0 x7_3)))) = true := decide_eq_true c12
                          clear c12
                          simp only [Option.some.injEq, Prod.mk.injEq] at H
                          obtain ⟨rfl, rfl⟩ := H
                          have p129 : 0 ≤ (x7_3 : Int) := of_decide_eq_true (by first | (with_reducible assumption) | assumption)
                          have q129 : x7_3 < (l0.length : Int) := of_decide_eq_true (by first | (with_reducible assumption) | assumption)
                          obtain ⟨ad129, e129, hx129_0⟩ := Kd.at_int HR0.out x7_3 p129 q129
                          cases e129
                          replace p129 := eq_true p129
                          replace q129 := eq_true q129
                          go_wp2
                          go_ret2
                          exact ⟨by first | rfl | (simp; done) | (simp [*]; done), by repeat (first | exact Drawn0.refl _ | apply Drawn0.step)⟩
                        · rw [if_neg c12] at H
                          have c12b0 : decide (1048576 < (wrap64 (x4_3 * (rd l0 x7_3)))) = false := decide_eq_false c12
                          clear c12
                          have H' := Aside0.mk H
                          clear H
                          have p129 : 0 ≤ (x7_3 : Int) := of_decide_eq_true (by first | (with_reducible assumption) | assumption)
                          have q129 : x7_3 < (l0.length : Int) := of_decide_eq_true (by first | (with_reducible assumption) | assumption)
                          obtain ⟨ad129, e129, hx129_0⟩ := Kd.at_int HR0.out x7_3 p129 q129
                          cases e129
                          replace p129 := eq_true p129
                          replace q129 := eq_true q129
                          go_wp2
                          go_roundg k3
                          case measure => have := HK1.out; have := HK2.out; have := HK3.out; omega
                          case rel => exact ⟨(wrap64 (x4_3 * (rd l0 x7_3))), (wrap64 (x7_3 + 1)), (by first | rfl | (simp; done) | (simp [*]; done)), (by first | rfl | (simp; done) | (simp [*]; done)), H', ⟨by have := HK1.out; have := HK2.out; have := HK3.out; omega⟩, by repeat (first | exact Drawn0.refl _ | apply Drawn0.step)⟩
                      · rw [if_neg c11] at H
                        exact absurd H (by simp)
                    · rw [if_neg c10] at H
                      have c10b0 : decide (x7_3 < (l0.length : Int)) = false := decide_eq_false c10
                      clear c10
                      simp only [Option.some.injEq, Prod.mk.injEq] at H
                      obtain ⟨rfl, rfl⟩ := H
                      go_wp2
                      go_ret2
                      exact ⟨by first | rfl | (simp; done) | (simp [*]; done), by repeat (first | exact Drawn0.refl _ | apply Drawn0.step)⟩
end Go.Proofs.Ytjbjofmcmjojlab.Wk
end
section
namespace Go.Proofs.Ytjbjofmcmjojlab.Wk
open Go.RowKit Go.Proofs.YtjbjofmcmjojlabW.PrintWords Go.Proofs.YtjbjofmcmjojlabW.PrintLast Go.Proofs.YtjbjofmcmjojlabW.PrintMore
attribute [local go_sem] max2_int min2_int max_two min_two max_three min_three max_four min_four
set_option linter.unusedVariables false
set_option linter.unusedSimpArgs false
def slabvaultref13_Fit.l0 : Nat → List Int → Int → Option (Int)
  | 0, _, _ => none
  | k + 1, x1, x7 => if x7 < (x1.length : Int) then (if 0 ≤ x7 then (if (rd x1 x7) < 1 then (some 2) else (if (rd x1 x7) > 1048576 then (some 2) else (slabvaultref13_Fit.l0 k x1 (wrap64 (x7 + 1))))) else (none)) else ((slabvaultref12_Elements.f k x1).bind fun bt134 => (some bt134.2))
def slabvaultref13_Fit.f (k : Nat) (l0 : List Int) (l1 : List Int) : Option (Int) := (slabvaultref12_Elements.f k l0).bind fun bt130 => (if bt130.2 = 0 then (if (l1.length : Int) = (l0.length : Int) then (slabvaultref13_Fit.l0 k l1 0) else (some 2)) else (some bt130.2))
set_option maxHeartbeats 8000000 in
set_option maxRecDepth 100000 in
theorem slabvaultref13_Fit.calls (k : Nat) (A0 : Option Addr) (c0 : Nat) (l0 : List Int) (A1 : Option Addr) (c1 : Nat) (l1 : List Int) (r : Int) (w : World) (hr0 : Kd.C (Kd.int .i64) w A0 l0.length l0) (hc0 : l0.length ≤ c0) (hr1 : Kd.C (Kd.int .i64) w A1 l1.length l1) (hc1 : l1.length ≤ c1) (h : slabvaultref13_Fit.f k l0 l1 = some r) :
    Calls Try.prog 35 #[.slice A0 l0.length c0, .slice A1 l1.length c1] w fun e w' => e = .returned (.int .i64 r) ∧ Drawn0 w w' := by
  have HR0 := Aside0.mk hr0
  have HC0 := Aside0.mk hc0
  clear hr0 hc0
  have HR1 := Aside0.mk hr1
  have HC1 := Aside0.mk hc1
  clear hr1 hc1
  have H : ((slabvaultref12_Elements.f k l0).bind fun bt130 => (if bt130.2 = 0 then (if (l1.length : Int) = (l0.length : Int) then (slabvaultref13_Fit.l0 k l1 0) else (some 2)) else (some bt130.2))) = some r := h
  clear h
  replace H := Option.bind_eq_some_iff.mp H
  obtain ⟨⟨t130, t131⟩, A30, H⟩ := H
  replace H : (if t131 = 0 then (if (l1.length : Int) = (l0.length : Int) then (slabvaultref13_Fit.l0 k l1 0) else (some 2)) else (some t131)) = some r := H
  have A3 := Aside0.mk A30
  clear A30
  by_cases c4 : t131 = 0
  · rw [if_pos c4] at H
    have c4b0 : (t131 == 0) = true := beq_iff_eq.mpr c4
    have c4b1 : (t131 != 0) = false := bne_eq_false_iff_eq.mpr c4
    clear c4
    by_cases c5 : (l1.length : Int) = (l0.length : Int)
    · rw [if_pos c5] at H
      have c5b0 : ((l1.length : Int) == (l0.length : Int)) = true := beq_iff_eq.mpr c5
      have c5b1 : ((l1.length : Int) != (l0.length : Int)) = false := bne_eq_false_iff_eq.mpr c5
      have c5b2 : (l1.length == l0.length) = true := by first | simpa using c5 | (simp at c5 ⊢; omega)
      clear c5
      have H' := Aside0.mk H
      clear H
      go_enter Try.func35, Try.ntmps35
      go_wp2_with (first | ((with_reducible refine gate_callee (f := 24) rfl ?_); refine goesL_ (some 10) rfl rfl Try.func24 (by kernel_rfl) rfl #[.slice A0 l0.length c0] rfl (by (try simp only [List.map_toArray, List.map_cons, List.map_nil]); first | done | rfl | (simp only [List.length_drop, List.length_take]; rfl)) ?_; (with_reducible refine (slabvaultref12_Elements.calls k _ _ l0 t130 t131 _ ?side1 ?side2 A3.out).mono ?_); (case side1 => repeat (first | exact HR0.out | (with_reducible refine Kd.C_alloc ?_ _) | (with_reducible refine Kd.C_drewN ?_ _) | (with_reducible refine Kd.C_drew ?_))); (case side2 => exact HC0.out); rintro e w' ⟨rfl, ⟨nd, rfl⟩⟩; refine ⟨_, rfl, ?_⟩))
      go_loopg [7] k (fun kq v7 w' => ∃ (x7_1 : Int), v7 = .int .i64 x7_1 ∧ Aside0 (slabvaultref13_Fit.l0 kq l1 x7_1 = some r) ∧ Aside0 (kq ≤ k) ∧ Drawn0 w w')
      case atStart => exact ⟨(0), (by first | rfl | (simp; done) | (simp [*]; done)), H', ⟨Nat.le_refl _⟩, by repeat (first | exact Drawn0.refl _ | apply Drawn0.step)⟩
      case round =>
        clear H'
        try clear c1
        try clear c2
        try clear p2
        try clear c3
        try clear c4
        try clear c4b0
        try clear c4b1
        try clear c5
        try clear c5b0
        try clear c5b1
        try clear c5b2
        obtain ⟨x7_1, rfl, HA, HK1, ⟨m1, rfl⟩⟩ := hrel
        cases gk with
        | zero => exact absurd HA.out (by simp [slabvaultref13_Fit.l0])
        | succ k1 =>
          have H := HA.out
          clear HA
          simp only [slabvaultref13_Fit.l0] at H
          by_cases c6 : x7_1 < (l1.length : Int)
          · rw [if_pos c6] at H
            have c6b0 : decide (x7_1 < (l1.length : Int)) = true := decide_eq_true c6
            clear c6
            by_cases c7 : 0 ≤ x7_1
            · rw [if_pos c7] at H
              have c7b0 : decide (0 ≤ x7_1) = true := decide_eq_true c7
              clear c7
              by_cases c8 : (rd l1 x7_1) < 1
              · rw [if_pos c8] at H
                have c8b0 : decide ((rd l1 x7_1) < 1) = true := decide_eq_true c8
                clear c8
                obtain rfl := Option.some.inj H
                have p132 : 0 ≤ (x7_1 : Int) := of_decide_eq_true (by first | (with_reducible assumption) | assumption)
                have q132 : x7_1 < (l1.length : Int) := of_decide_eq_true (by first | (with_reducible assumption) | assumption)
                obtain ⟨ad132, e132, hx132_0⟩ := Kd.at_int HR1.out x7_1 p132 q132
                cases e132
                replace p132 := eq_true p132
                replace q132 := eq_true q132
                go_wp2
                go_ret
                exact ⟨by first | rfl | (simp; done) | (simp [*]; done), by repeat (first | exact Drawn0.refl _ | apply Drawn0.step)⟩
              · rw [if_neg c8] at H
                have c8b0 : decide ((rd l1 x7_1) < 1) = false := decide_eq_false c8
                clear c8
                by_cases c9 : (rd l1 x7_1) > 1048576
                · rw [if_pos c9] at H
                  have c9b0 : decide (1048576 < (rd l1 x7_1)) = true := decide_eq_true c9
                  clear c9
                  obtain rfl := Option.some.inj H
                  have p132 : 0 ≤ (x7_1 : Int) := of_decide_eq_true (by first | (with_reducible assumption) | assumption)
                  have q132 : x7_1 < (l1.length : Int) := of_decide_eq_true (by first | (with_reducible assumption) | assumption)
                  obtain ⟨ad132, e132, hx132_0⟩ := Kd.at_int HR1.out x7_1 p132 q132
                  cases e132
                  replace p132 := eq_true p132
                  replace q132 := eq_true q132
                  have p133 : 0 ≤ (x7_1 : Int) := of_decide_eq_true (by first | (with_reducible assumption) | assumption)
                  have q133 : x7_1 < (l1.length : Int) := of_decide_eq_true (by first | (with_reducible assumption) | assumption)
                  obtain ⟨ad133, e133, hx133_0⟩ := Kd.at_int HR1.out x7_1 p133 q133
                  obtain rfl : ad132 = ad133 := (by injection e133)
                  replace p133 := eq_true p133
                  replace q133 := eq_true q133
                  go_wp2
                  go_ret
                  exact ⟨by first | rfl | (simp; done) | (simp [*]; done), by repeat (first | exact Drawn0.refl _ | apply Drawn0.step)⟩
                · rw [if_neg c9] at H
                  have c9b0 : decide (1048576 < (rd l1 x7_1)) = false := decide_eq_false c9
                  clear c9
                  have H' := Aside0.mk H
                  clear H
                  have p132 : 0 ≤ (x7_1 : Int) := of_decide_eq_true (by first | (with_reducible assumption) | assumption)
                  have q132 : x7_1 < (l1.length : Int) := of_decide_eq_true (by first | (with_reducible assumption) | assumption)
                  obtain ⟨ad132, e132, hx132_0⟩ := Kd.at_int HR1.out x7_1 p132 q132
                  cases e132
                  replace p132 := eq_true p132
                  replace q132 := eq_true q132
                  have p133 : 0 ≤ (x7_1 : Int) := of_decide_eq_true (by first | (with_reducible assumption) | assumption)
                  have q133 : x7_1 < (l1.length : Int) := of_decide_eq_true (by first | (with_reducible assumption) | assumption)
                  obtain ⟨ad133, e133, hx133_0⟩ := Kd.at_int HR1.out x7_1 p133 q133
                  obtain rfl : ad132 = ad133 := (by injection e133)
                  replace p133 := eq_true p133
                  replace q133 := eq_true q133
                  go_wp2
                  go_roundg k1
                  case measure => have := HK1.out; omega
                  case rel => exact ⟨(wrap64 (x7_1 + 1)), (by first | rfl | (simp; done) | (simp [*]; done)), H', ⟨by have := HK1.out; omega⟩, by repeat (first | exact Drawn0.refl _ | apply Drawn0.step)⟩
            · rw [if_neg c7] at H
              exact absurd H (by simp)
          · rw [if_neg c6] at H
            have c6b0 : decide (x7_1 < (l1.length : Int)) = false := decide_eq_false c6
            clear c6
            replace H := Option.bind_eq_some_iff.mp H
            obtain ⟨⟨t134, t135⟩, A100, H⟩ := H
            replace H : (some t135) = some r := H
            have A10 := Aside0.mk A100
            clear A100
            obtain rfl := Option.some.inj H
            go_wp2_with (first | ((with_reducible refine gate_callee (f := 24) rfl ?_); refine goesL_ (some 41) rfl rfl Try.func24 (by kernel_rfl) rfl #[.slice A1 l1.length c1] rfl (by (try simp only [List.map_toArray, List.map_cons, List.map_nil]); first | done | rfl | (simp only [List.length_drop, List.length_take]; rfl)) ?_; (with_reducible refine (slabvaultref12_Elements.calls k1 _ _ l1 t134 t135 _ ?side1 ?side2 A10.out).mono ?_); (case side1 => repeat (first | exact HR1.out | (with_reducible refine Kd.C_alloc ?_ _) | (with_reducible refine Kd.C_drewN ?_ _) | (with_reducible refine Kd.C_drew ?_))); (case side2 => exact HC1.out); rintro e w' ⟨rfl, ⟨nd, rfl⟩⟩; refine ⟨_, rfl, ?_⟩))
            go_ret
            exact ⟨by first | rfl | (simp; done) | (simp [*]; done), by repeat (first | exact Drawn0.refl _ | apply Drawn0.step)⟩
    · rw [if_neg c5] at H
      have c5b0 : ((l1.length : Int) == (l0.length : Int)) = false := beq_eq_false_iff_ne.mpr c5
      have c5b1 : ((l1.length : Int) != (l0.length : Int)) = true := bne_iff_ne.mpr c5
      have c5b2 : (l1.length == l0.length) = false := by first | simpa using c5 | (simp at c5 ⊢; omega)
      obtain rfl := Option.some.inj H
      go_enter Try.func35, Try.ntmps35
      go_wp2_with (first | ((with_reducible refine gate_callee (f := 24) rfl ?_); refine goesL_ (some 10) rfl rfl Try.func24 (by kernel_rfl) rfl #[.slice A0 l0.length c0] rfl (by (try simp only [List.map_toArray, List.map_cons, List.map_nil]); first | done | rfl | (simp only [List.length_drop, List.length_take]; rfl)) ?_; (with_reducible refine (slabvaultref12_Elements.calls k _ _ l0 t130 t131 _ ?side1 ?side2 A3.out).mono ?_); (case side1 => repeat (first | exact HR0.out | (with_reducible refine Kd.C_alloc ?_ _) | (with_reducible refine Kd.C_drewN ?_ _) | (with_reducible refine Kd.C_drew ?_))); (case side2 => exact HC0.out); rintro e w' ⟨rfl, ⟨nd, rfl⟩⟩; refine ⟨_, rfl, ?_⟩))
      go_ret
      exact ⟨by first | rfl | (simp; done) | (simp [*]; done), by repeat (first | exact Drawn0.refl _ | apply Drawn0.step)⟩
  · rw [if_neg c4] at H
    have c4b0 : (t131 == 0) = false := beq_eq_false_iff_ne.mpr c4
    have c4b1 : (t131 != 0) = true := bne_iff_ne.mpr c4
    obtain rfl := Option.some.inj H
    go_enter Try.func35, Try.ntmps35
    go_wp2_with (first | ((with_reducible refine gate_callee (f := 24) rfl ?_); refine goesL_ (some 10) rfl rfl Try.func24 (by kernel_rfl) rfl #[.slice A0 l0.length c0] rfl (by (try simp only [List.map_toArray, List.map_cons, List.map_nil]); first | done | rfl | (simp only [List.length_drop, List.length_take]; rfl)) ?_; (with_reducible refine (slabvaultref12_Elements.calls k _ _ l0 t130 t131 _ ?side1 ?side2 A3.out).mono ?_); (case side1 => repeat (first | exact HR0.out | (with_reducible refine Kd.C_alloc ?_ _) | (with_reducible refine Kd.C_drewN ?_ _) | (with_reducible refine Kd.C_drew ?_))); (case side2 => exact HC0.out); rintro e w' ⟨rfl, ⟨nd, rfl⟩⟩; refine ⟨_, rfl, ?_⟩))
    go_ret
    exact ⟨by first | rfl | (simp; done) | (simp [*]; done), by repeat (first | exact Drawn0.refl _ | apply Drawn0.step)⟩
end Go.Proofs.Ytjbjofmcmjojlab.Wk
end
section
namespace Go.Proofs.Ytjbjofmcmjojlab.Wk
open Go.RowKit Go.Proofs.YtjbjofmcmjojlabW.PrintWords Go.Proofs.YtjbjofmcmjojlabW.PrintLast Go.Proofs.YtjbjofmcmjojlabW.PrintMore
attribute [local go_sem] max2_int min2_int max_two min_two max_three min_three max_four min_four
set_option linter.unusedVariables false
set_option linter.unusedSimpArgs false
def slabvaultref13_right.l0 : Nat → List Int → Int → Int → Option (Bool)
  | 0, _, _, _ => none
  | k + 1, x0, x1, x5 => if x5 < x1 then (if 0 ≤ x5 then (if x5 < (x0.length : Int) then (if (rd x0 x5) < 0 then (some false) else (slabvaultref13_right.l0 k x0 x1 (wrap64 (x5 + 1)))) else (none)) else (none)) else (some true)
def slabvaultref13_right.f (k : Nat) (l0 : List Int) (a1 : Int) : Option (Bool) := if (l0.length : Int) = a1 then (slabvaultref13_right.l0 k l0 a1 0) else (some false)
set_option maxHeartbeats 8000000 in
set_option maxRecDepth 100000 in
theorem slabvaultref13_right.calls (k : Nat) (A0 : Option Addr) (c0 : Nat) (l0 : List Int) (a1 : Int) (r : Bool) (w : World) (hr0 : Kd.C (Kd.int .i64) w A0 l0.length l0) (hc0 : l0.length ≤ c0) (h : slabvaultref13_right.f k l0 a1 = some r) :
    Calls Try.prog 36 #[.slice A0 l0.length c0, .int .i64 a1] w fun e w' => e = .returned (.bool r) ∧ Drawn0 w w' := by
  have HR0 := Aside0.mk hr0
  have HC0 := Aside0.mk hc0
  clear hr0 hc0
  have H : (if (l0.length : Int) = a1 then (slabvaultref13_right.l0 k l0 a1 0) else (some false)) = some r := h
  clear h
  by_cases c3 : (l0.length : Int) = a1
  · rw [if_pos c3] at H
    have c3b0 : ((l0.length : Int) == a1) = true := beq_iff_eq.mpr c3
    have c3b1 : ((l0.length : Int) != a1) = false := bne_eq_false_iff_eq.mpr c3
    clear c3
    have H' := Aside0.mk H
    clear H
    go_enter Try.func36, Try.ntmps36
    go_wp2
    go_loopg [5] k (fun kq v5 w' => ∃ (x5_1 : Int), v5 = .int .i64 x5_1 ∧ Aside0 (slabvaultref13_right.l0 kq l0 a1 x5_1 = some r) ∧ Aside0 (kq ≤ k) ∧ Drawn0 w w')
    case atStart => exact ⟨(0), (by first | rfl | (simp; done) | (simp [*]; done)), H', ⟨Nat.le_refl _⟩, by repeat (first | exact Drawn0.refl _ | apply Drawn0.step)⟩
    case round =>
      clear H'
      try clear p2
      try clear c3
      try clear c3b0
      try clear c3b1
      obtain ⟨x5_1, rfl, HA, HK1, ⟨m1, rfl⟩⟩ := hrel
      cases gk with
      | zero => exact absurd HA.out (by simp [slabvaultref13_right.l0])
      | succ k1 =>
        have H := HA.out
        clear HA
        simp only [slabvaultref13_right.l0] at H
        by_cases c4 : x5_1 < a1
        · rw [if_pos c4] at H
          have c4b0 : decide (x5_1 < a1) = true := decide_eq_true c4
          clear c4
          by_cases c5 : 0 ≤ x5_1
          · rw [if_pos c5] at H
            have c5b0 : decide (0 ≤ x5_1) = true := decide_eq_true c5
            clear c5
            by_cases c6 : x5_1 < (l0.length : Int)
            · rw [if_pos c6] at H
              have c6b0 : decide (x5_1 < (l0.length : Int)) = true := decide_eq_true c6
              clear c6
              by_cases c7 : (rd l0 x5_1) < 0
              · rw [if_pos c7] at H
                have c7b0 : decide ((rd l0 x5_1) < 0) = true := decide_eq_true c7
                clear c7
                obtain rfl := Option.some.inj H
                have p136 : 0 ≤ (x5_1 : Int) := of_decide_eq_true (by first | (with_reducible assumption) | assumption)
                have q136 : x5_1 < (l0.length : Int) := of_decide_eq_true (by first | (with_reducible assumption) | assumption)
                obtain ⟨ad136, e136, hx136_0⟩ := Kd.at_int HR0.out x5_1 p136 q136
                cases e136
                replace p136 := eq_true p136
                replace q136 := eq_true q136
                go_wp2
                go_ret
                exact ⟨by first | rfl | (simp; done) | (simp [*]; done), by repeat (first | exact Drawn0.refl _ | apply Drawn0.step)⟩
              · rw [if_neg c7] at H
                have c7b0 : decide ((rd l0 x5_1) < 0) = false := decide_eq_false c7
                clear c7
                have H' := Aside0.mk H
                clear H
                have p136 : 0 ≤ (x5_1 : Int) := of_decide_eq_true (by first | (with_reducible assumption) | assumption)
                have q136 : x5_1 < (l0.length : Int) := of_decide_eq_true (by first | (with_reducible assumption) | assumption)
                obtain ⟨ad136, e136, hx136_0⟩ := Kd.at_int HR0.out x5_1 p136 q136
                cases e136
                replace p136 := eq_true p136
                replace q136 := eq_true q136
                go_wp2
                go_roundg k1
                case measure => have := HK1.out; omega
                case rel => exact ⟨(wrap64 (x5_1 + 1)), (by first | rfl | (simp; done) | (simp [*]; done)), H', ⟨by have := HK1.out; omega⟩, by repeat (first | exact Drawn0.refl _ | apply Drawn0.step)⟩
            · rw [if_neg c6] at H
              exact absurd H (by simp)
          · rw [if_neg c5] at H
            exact absurd H (by simp)
        · rw [if_neg c4] at H
          have c4b0 : decide (x5_1 < a1) = false := decide_eq_false c4
          clear c4
          obtain rfl := Option.some.inj H
          go_wp2
          go_ret
          exact ⟨by first | rfl | (simp; done) | (simp [*]; done), by repeat (first | exact Drawn0.refl _ | apply Drawn0.step)⟩
  · rw [if_neg c3] at H
    have c3b0 : ((l0.length : Int) == a1) = false := beq_eq_false_iff_ne.mpr c3
    have c3b1 : ((l0.length : Int) != a1) = true := bne_iff_ne.mpr c3
    obtain rfl := Option.some.inj H
    go_enter Try.func36, Try.ntmps36
    go_wp2
    go_ret
    exact ⟨by first | rfl | (simp; done) | (simp [*]; done), by repeat (first | exact Drawn0.refl _ | apply Drawn0.step)⟩
end Go.Proofs.Ytjbjofmcmjojlab.Wk
end
