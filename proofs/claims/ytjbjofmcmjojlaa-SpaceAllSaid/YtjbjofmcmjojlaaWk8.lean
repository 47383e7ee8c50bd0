-- Written by wip/tools/hprint.py: walks by the kit's print.py, hand-written texts laid between them. Lean checks all of it.
import Derived.Test.YtjbjofmcmjojlaaWk0
import Derived.Test.YtjbjofmcmjojlaaWk1
import Derived.Test.YtjbjofmcmjojlaaWk2
namespace Go.Proofs.Ytjbjofmcmjojlaa.Wk
open Go.RowKit Go.Proofs.YtjbjofmcmjojlaaW.PrintWords Go.Proofs.YtjbjofmcmjojlaaW.PrintLast Go.Proofs.YtjbjofmcmjojlaaW.PrintMore
attribute [local go_sem] max2_int min2_int max_two min_two max_three min_three max_four min_four   -- for this text's walks alone
set_option linter.unusedVariables false
set_option linter.unusedSimpArgs false

/-! ### space_right: function 39 -/
theorem at_ints {w : World} {A : Option Addr} {n : Nat} {xs : List (List Int)} (h : Kd.C (Kd.slice 3 (Kd.int .i64)) w A n xs) (i : Nat) (h1 : i < n) :
    ∃ ad A0 c0, A = some ad ∧ w.cell? (ad.add i) = some (.slice A0 (xs.getD i []).length c0) ∧ (xs.getD i []).length ≤ c0 ∧ (Kd.int .i64).C w A0 (xs.getD i []).length (xs.getD i []) := by
  obtain ⟨ad, c, e, _, hK, hc0⟩ := Kd.C_get h ([] : List Int) i (by omega) (by omega)
  have hc : ∀ j u, c[j]? = some u → w.cell? (ad.add ((i : Int).toNat * 1 + j)) = some u := hc0
  obtain ⟨A0, c0, rfl, l0, g0⟩ := hK
  rw [Int.toNat_natCast] at l0 g0 hc
  exact ⟨ad, A0, c0, e, by have hq := hc 0 _ rfl; rwa [Nat.mul_one, Nat.add_zero] at hq, l0, g0⟩

def negDim (x : Int) : Bool := decide (x < 0)
theorem pred46 (w : World) : PredAt 46 #[] negDim w := by
  refine ⟨fun _ _ => rfl, fun x n => ?_⟩
  go_enter Try.func46, Try.ntmps46
  go_wp2
  go_ret
  exact ⟨rfl, ⟨_, rfl⟩⟩

def rightOne (a : Int) (l : List Int) : Bool := decide ((l.length : Int) = a) && !l.any negDim
def space_right.f (a0 : Int) (l1 : List (List Int)) : Option Bool :=
  if l1.length ≤ maxLen ∧ (∀ l ∈ l1, l.length ≤ maxLen) then some (l1.all (rightOne a0)) else none
theorem all_drop {α : Type} (p : α → Bool) (d : α) (l : List α) (k : Nat) (h : k < l.length) : (l.drop k).all p = (p (l.getD k d) && (l.drop (k + 1)).all p) := by
  rw [List.drop_eq_getElem_cons h, List.all_cons]
  simp [List.getD_eq_getElem?_getD, h]

set_option maxHeartbeats 1000000 in
theorem space_right.calls (a0 : Int) (A1 : Option Addr) (c1 : Nat) (l1 : List (List Int)) (r : Bool) (w : World) (hr1 : Kd.C (Kd.slice 3 (Kd.int .i64)) w A1 l1.length l1) (hc1 : l1.length ≤ c1) (h : space_right.f a0 l1 = some r) :
    Calls Try.prog 39 #[.int .i64 a0, .slice A1 l1.length c1] w fun e w' => e = .returned (.bool r) ∧ Drawn0 w w' := by
  unfold space_right.f at h
  split at h
  case isFalse => cases h
  case isTrue hl =>
  replace h := Option.some.inj h
  have HR1 := Aside0.mk hr1
  have HL := Aside0.mk hl.2
  have HH := Aside0.mk h
  have hm := hl.1
  unfold maxLen at hm
  clear hr1 hc1 hl h
  go_enter Try.func39, Try.ntmps39
  go_wp2
  go_loopw [6, 9] (fun _ i wr => ∃ (k : Nat), k ≤ l1.length ∧ i = .int .i64 k ∧ Aside0 ((l1.drop k).all (rightOne a0) = r) ∧ Drawn0 w wr) (fun _ i _ => l1.length - (intOf i).toNat)
  case atStart => exact ⟨0, Nat.zero_le _, rfl, HH, ⟨0, rfl⟩⟩
  case round =>
    obtain ⟨k, hk, rfl, HE, ⟨nd, rfl⟩⟩ := hrel
    by_cases hlt : k < l1.length
    · obtain ⟨ad, A0, c0, e1, hx, hcc, hC⟩ := at_ints HR1.out k hlt
      cases e1
      have HC := Aside0.mk hC
      clear hC
      have hmem : l1.getD k [] ∈ l1 := by simp [List.getD_eq_getElem?_getD, hlt]
      have HM := Aside0.mk (HL.out _ hmem)
      have HN : Aside0 ((rightOne a0 (l1.getD k []) && (l1.drop (k + 1)).all (rightOne a0)) = r) := ⟨by rw [← HE.out, all_drop _ [] _ _ hlt]⟩
      clear hmem
      generalize l1.getD k [] = y at hx HC HN HM hcc
      have hym := HM.out
      unfold maxLen at hym
      by_cases hlen : (y.length : Int) = a0
      · have h1 : ((y.length : Int) == a0) = true := by simpa using hlen
        have h2 : ((y.length : Int) != a0) = false := by simpa using hlen
        clear hlen
        cases hb : y.any negDim with
        | true =>
          have HB := Aside0.mk hb
          have HN' := HN.out
          rw [rightOne, HB.out] at HN'
          simp at HN'
          subst HN'
          clear hb
          go_wp2_with (go_at_call 26; refine (ContainsFunc_int 46 #[] negDim _ _ y _ (pred46 _) (Kd.C_drewN HC.out _) HM.out).mono ?_; rintro e w' ⟨rfl, ⟨n2, rfl⟩⟩; rw [HB.out])
          go_ret
          exact ⟨rfl, ⟨_, by first | rfl | simp⟩⟩
        | false =>
          have HB := Aside0.mk hb
          have HN2 : Aside0 ((l1.drop (k + 1)).all (rightOne a0) = r) := ⟨by
            have := HN.out
            rw [rightOne, HB.out] at this
            simpa [of_decide_eq_true, (beq_iff_eq.1 h1)] using this⟩
          clear hb
          go_wp2_with (go_at_call 26; refine (ContainsFunc_int 46 #[] negDim _ _ y _ (pred46 _) (Kd.C_drewN HC.out _) HM.out).mono ?_; rintro e w' ⟨rfl, ⟨n2, rfl⟩⟩; rw [HB.out])
          go_roundw
          case rel => exact ⟨k + 1, by omega, by go_num, HN2, ⟨_, by first | rfl | simp⟩⟩
          case measure => simp [intOf]; omega
      · have h1 : ((y.length : Int) == a0) = false := by simpa using hlen
        have h2 : ((y.length : Int) != a0) = true := by simpa using hlen
        have HN' := HN.out
        simp [rightOne, hlen] at HN'
        subst HN'
        clear hlen
        go_wp2
        go_ret
        exact ⟨rfl, ⟨_, rfl⟩⟩
    · have HN' := HE.out
      rw [List.drop_eq_nil_of_le (by omega)] at HN'
      simp at HN'
      subst HN'
      go_wp2
      go_ret
      exact ⟨rfl, ⟨_, rfl⟩⟩


end Go.Proofs.Ytjbjofmcmjojlaa.Wk
