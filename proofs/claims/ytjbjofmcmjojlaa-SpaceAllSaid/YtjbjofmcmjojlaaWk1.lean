-- Written by wip/tools/hprint.py: walks by the kit's print.py, hand-written texts laid between them. Lean checks all of it.
import Derived.Test.YtjbjofmcmjojlaaWk0
namespace Go.Proofs.Ytjbjofmcmjojlaa.Wk
open Go.RowKit Go.Proofs.YtjbjofmcmjojlaaW.PrintWords Go.Proofs.YtjbjofmcmjojlaaW.PrintLast Go.Proofs.YtjbjofmcmjojlaaW.PrintMore
attribute [local go_sem] max2_int min2_int max_two min_two max_three min_three max_four min_four   -- for this text's walks alone
set_option linter.unusedVariables false
set_option linter.unusedSimpArgs false

/-! ### slices_IndexFunc_int_int: function 37 -/
def idxFrom (p : Int → Bool) (l : List Int) : Nat → Nat → Int
  | 0, _ => -1
  | d + 1, i => if p (rd l i) then i else idxFrom p l d (i + 1)
theorem idxFrom_any_aux (p : Int → Bool) (l : List Int) (d : Nat) : ∀ i, l.length - i = d → decide (0 ≤ idxFrom p l d i) = (l.drop i).any p := by
  induction d with
  | zero => intro i h; rw [List.drop_eq_nil_of_le (by omega)]; simp [idxFrom]
  | succ d ih =>
    intro i h
    have hi : i < l.length := by omega
    rw [List.drop_eq_getElem_cons hi, List.any_cons, ← ih (i + 1) (by omega), idxFrom]
    have e : rd l (i : Int) = l[i] := by simp [rd, hi]
    rw [e]
    by_cases hp : p l[i] = true
    · rw [if_pos hp, hp]; simp
    · rw [if_neg hp]; simp only [Bool.not_eq_true] at hp; rw [hp]; simp
theorem idxFrom_any (p : Int → Bool) (l : List Int) : decide (0 ≤ idxFrom p l l.length 0) = l.any p := by
  have := idxFrom_any_aux p l l.length 0 (by omega)
  simpa using this
def PredAt (g : Nat) (C : Array Value) (p : Int → Bool) (w : World) : Prop :=
  (∀ args w, Sem.run Try.prog (callFunc g args) w = .ok (.enter g args) w) ∧
  ∀ (x : Int) (n : Nat), Calls Try.prog g (#[.int .i64 x] ++ C) (w.drewN n) fun e w' => e = .returned (.bool (p x)) ∧ Drawn0 w w'

set_option maxHeartbeats 800000 in
theorem IndexFunc_int (g : Nat) (C : Array Value) (p : Int → Bool) 
    (A0 : Option Addr) (c0 : Nat) (l0 : List Int) (w : World) (hp : PredAt g C p w) (hr0 : Kd.C (Kd.int .i64) w A0 l0.length l0) (hm : l0.length ≤ maxLen) :
    Calls Try.prog 37 #[.slice A0 l0.length c0, .func (.func g) #[] C] w fun e w' => e = .returned (.int .i64 (idxFrom p l0 l0.length 0)) ∧ Drawn0 w w' := by
  have HR0 := Aside0.mk hr0
  clear hr0
  unfold maxLen at hm
  go_enter Try.func37, Try.ntmps37
  go_wp2
  go_loopw [5, 8] (fun _ i wr => ∃ k : Nat, k ≤ l0.length ∧ i = .int .i64 k ∧ Aside0 (idxFrom p l0 l0.length 0 = idxFrom p l0 (l0.length - k) k) ∧ Drawn0 w wr) (fun _ i _ => l0.length - (intOf i).toNat)
  case atStart => exact ⟨0, Nat.zero_le _, rfl, ⟨rfl⟩, Drawn0.refl _⟩
  case round =>
    obtain ⟨k, hk, rfl, HE, ⟨nd, rfl⟩⟩ := hrel
    by_cases hlt : k < l0.length
    · obtain ⟨ad, e1, hx0⟩ := Kd.at_int HR0.out k (by omega) (by omega)
      cases e1
      have hx : w.cell? (ad.add k) = some (Value.int IntKind.i64 (rd l0 k)) := by simpa using hx0
      clear hx0
      have hq := hp.2 (rd l0 k) nd
      have hcf := hp.1
      have HN : Aside0 (idxFrom p l0 (l0.length - k) k = if p (rd l0 k) then (k : Int) else idxFrom p l0 (l0.length - (k + 1)) (k + 1)) := ⟨by
        rw [show l0.length - k = (l0.length - (k + 1)) + 1 by omega, idxFrom]⟩
      generalize p (rd l0 k) = b at hq HN
      have HQ := Aside0.mk hq
      clear hq
      cases b with
      | true =>
        go_wp2_with (refine HQ.out.mono ?_; rintro e w' ⟨rfl, ⟨n2, rfl⟩⟩)
        go_ret
        exact ⟨by rw [HE.out, HN.out]; rfl, by first | exact Drawn0.refl _ | (exact ⟨_, rfl⟩)⟩
      | false =>
        go_wp2_with (refine HQ.out.mono ?_; rintro e w' ⟨rfl, ⟨n2, rfl⟩⟩)
        go_roundw
        case rel => exact ⟨k + 1, by omega, by go_num, ⟨by rw [HE.out, HN.out]; simp⟩, ⟨_, rfl⟩⟩
        case measure => simp [intOf]; omega
    · have HN : Aside0 (idxFrom p l0 (l0.length - k) k = -1) := ⟨by rw [show l0.length - k = 0 by omega, idxFrom]⟩
      go_wp2
      go_ret
      exact ⟨by rw [HE.out, HN.out]; rfl, ⟨_, rfl⟩⟩



end Go.Proofs.Ytjbjofmcmjojlaa.Wk
