-- Written by wip/tools/hprint.py: walks by the kit's print.py, hand-written texts laid between them. Lean checks all of it.
import Derived.Test.YtjbjofmcmjojlaaWk0
import Derived.Test.YtjbjofmcmjojlaaWk4
import Derived.Test.YtjbjofmcmjojlaaWk8
namespace Go.Proofs.Ytjbjofmcmjojlaa.Wk
open Go.RowKit Go.Proofs.YtjbjofmcmjojlaaW.PrintWords Go.Proofs.YtjbjofmcmjojlaaW.PrintLast Go.Proofs.YtjbjofmcmjojlaaW.PrintMore
attribute [local go_sem] max2_int min2_int max_two min_two max_three min_three max_four min_four   -- for this text's walks alone
set_option linter.unusedVariables false
set_option linter.unusedSimpArgs false

/-! ### space_many: function 40 -/
/-- how many there are, as the loop works it out -/
def manyLoop (l : List Int) : Nat → Nat → Int → Int
  | 0, _, n => n
  | d + 1, i, n => if rd l i > 4096 / n then 4097 else manyLoop l d (i + 1) (n * rd l i)
def space_many.f (a0 : Int) (l1 : List Int) : Option Int :=
  if a0 = 1 ∧ l1.length ≤ maxLen ∧ l1.any negDim = false then some (if l1.contains 0 = true then 0 else manyLoop l1 l1.length 0 1) else none
theorem pos_rd {l : List Int} (h : l.any negDim = false) (hz : l.contains 0 = false) (i : Nat) (hi : i < l.length) : 1 ≤ rd l i := by
  have e : rd l (i : Int) = l[i] := by simp [rd, hi]
  rw [e]
  have h1 := List.any_eq_false.1 h l[i] (List.getElem_mem hi)
  have h2 : l[i] ≠ 0 := fun e0 => by
    have h3 : (0 : Int) ∈ l := by rw [← e0]; exact List.getElem_mem hi
    rw [List.contains_iff_mem.2 h3] at hz
    cases hz
  simp [negDim] at h1
  omega
set_option maxHeartbeats 1000000 in
theorem space_many.calls (a0 : Int) (A1 : Option Addr) (c1 : Nat) (l1 : List Int) (r : Int) (w : World) (hr1 : Kd.C (Kd.int .i64) w A1 l1.length l1) (hc1 : l1.length ≤ c1) (h : space_many.f a0 l1 = some r) :
    Calls Try.prog 40 #[.int .i64 a0, .slice A1 l1.length c1] w fun e w' => e = .returned (.int .i64 r) ∧ Drawn0 w w' := by
  unfold space_many.f at h
  split at h
  case isFalse => cases h
  case isTrue hl =>
  obtain ⟨rfl, hm, hng⟩ := hl
  replace h := Option.some.inj h
  have HR1 := Aside0.mk hr1
  have HC1 := Aside0.mk hc1
  have HN := Aside0.mk hng
  have HM := Aside0.mk hm
  have HC := Aside0.mk (Contains_int_total l1 0 HM.out)
  clear hr1 hc1 hm hng
  cases hz : l1.contains 0 with
  | true =>
    have HZ := Aside0.mk hz
    rw [HZ.out, if_pos rfl] at h
    subst h
    clear hz
    go_enter Try.func40, Try.ntmps40
    go_wp2_with (go_at_call 28; refine (slices_Contains_int_int.calls (l1.length + 1) _ _ l1 0 _ _ HR1.out HC1.out HC.out).mono ?_; rintro e w' ⟨rfl, ⟨n3, rfl⟩⟩; rw [HZ.out])
    go_ret
    exact ⟨rfl, ⟨_, rfl⟩⟩
  | false =>
    have HZ := Aside0.mk hz
    rw [HZ.out, if_neg (by simp)] at h
    have HH := Aside0.mk h
    have hm := HM.out
    unfold maxLen at hm
    clear hz h
    go_enter Try.func40, Try.ntmps40
    go_wp2_with (go_at_call 28; refine (slices_Contains_int_int.calls (l1.length + 1) _ _ l1 0 _ _ HR1.out HC1.out HC.out).mono ?_; rintro e w' ⟨rfl, ⟨n3, rfl⟩⟩; rw [HZ.out])
    go_loopw [0, 15] (fun v i wr => ∃ (k : Nat) (n : Int), k ≤ l1.length ∧ i = .int .i64 k ∧ v = .int .i64 n ∧ 1 ≤ n ∧ n ≤ 4096 ∧ Aside0 (manyLoop l1 (l1.length - k) k n = r) ∧ Drawn0 w wr) (fun _ i _ => l1.length - (intOf i).toNat)
    case atStart => exact ⟨0, 1, Nat.zero_le _, rfl, rfl, by omega, by omega, HH, ⟨_, rfl⟩⟩
    case round =>
      obtain ⟨k, n, hk, rfl, rfl, hn0, hn1, HE, ⟨nd, rfl⟩⟩ := hrel
      by_cases hlt : k < l1.length
      · obtain ⟨ad, e1, hx0⟩ := Kd.at_int HR1.out k (by omega) (by omega)
        cases e1
        have hx : w.cell? (ad.add k) = some (Value.int IntKind.i64 (rd l1 k)) := by simpa using hx0
        clear hx0
        have hg := pos_rd HN.out HZ.out k hlt
        have HN2 : Aside0 ((if rd l1 k > 4096 / n then 4097 else manyLoop l1 (l1.length - (k + 1)) (k + 1) (n * rd l1 k)) = r) := ⟨by
          rw [← HE.out, show l1.length - k = (l1.length - (k + 1)) + 1 by omega, manyLoop]⟩
        generalize rd l1 k = y at hx HN2 hg
        have hq0 : 0 ≤ 4096 / n := Int.ediv_nonneg (by omega) (by omega)
        have hq1 : 4096 / n ≤ 4096 := Int.ediv_le_self _ (by omega)
        by_cases hbig : y > 4096 / n
        · have HN' := HN2.out
          rw [if_pos hbig] at HN'
          subst HN'
          have hb2 : 4096 / n < y := hbig
          clear hbig
          go_wp2
          go_ret
          exact ⟨rfl, ⟨_, rfl⟩⟩
        · have HN' := HN2.out
          rw [if_neg hbig] at HN'
          have HN3 := Aside0.mk HN'
          clear HN2 HN'
          have hp1 : y ≤ 4096 / n := by omega
          have hp2 : n * y ≤ n * (4096 / n) := Int.mul_le_mul_of_nonneg_left hp1 (by omega)
          have hp3 : n * (4096 / n) ≤ 4096 := Int.mul_ediv_self_le (by omega)
          have hp4 : 1 * 1 ≤ n * y := Int.mul_le_mul hn0 hg (by omega) (by omega)
          have hp5 : n * y ≤ 4096 := Int.le_trans hp2 hp3
          clear hp2 hp3 hbig
          have hw : wrap64 (n * y) = n * y := by unfold wrap64; omega
          go_wp2
          go_roundw
          case rel => exact ⟨k + 1, n * y, by omega, by go_num, rfl, by omega, by omega, HN3, ⟨_, rfl⟩⟩
          case measure => simp [intOf]; omega
      · have HN' := HE.out
        rw [show l1.length - k = 0 by omega, manyLoop] at HN'
        subst HN'
        go_wp2
        go_ret
        exact ⟨rfl, ⟨_, rfl⟩⟩


end Go.Proofs.Ytjbjofmcmjojlaa.Wk
