-- Written by wip/tools/hprint.py: walks by the kit's print.py, hand-written texts laid between them. Lean checks all of it.
import Derived.Test.YtjbjofmcmjojlaaWk0
import Derived.Test.YtjbjofmcmjojlaaWk1
import Derived.Test.YtjbjofmcmjojlaaWk2
import Derived.Test.YtjbjofmcmjojlaaWk4
namespace Go.Proofs.Ytjbjofmcmjojlaa.Wk
open Go.RowKit Go.Proofs.YtjbjofmcmjojlaaW.PrintWords Go.Proofs.YtjbjofmcmjojlaaW.PrintLast Go.Proofs.YtjbjofmcmjojlaaW.PrintMore
attribute [local go_sem] max2_int min2_int max_two min_two max_three min_three max_four min_four   -- for this text's walks alone
set_option linter.unusedVariables false
set_option linter.unusedSimpArgs false

/-! ### space_Elements: function 11 -/
def badDim (x : Int) : Bool := decide (x < 0) || decide (1048576 < x)
theorem pred27 (w : World) : PredAt 27 #[] badDim w := by
  refine ⟨fun _ _ => rfl, fun x n => ?_⟩
  by_cases h : x < 0
  · go_enter Try.func27, Try.ntmps27
    go_wp2
    go_ret
    exact ⟨by simp [badDim, h], ⟨_, rfl⟩⟩
  · have h1 : decide (x < 0) = false := by simpa using h
    go_enter Try.func27, Try.ntmps27
    go_wp2
    go_ret
    exact ⟨by simp [badDim, h1], ⟨_, rfl⟩⟩
/-- the product of the dimensions, as the loop works it out -/
def prodLoop (l : List Int) : Nat → Nat → Int → Int × Int
  | 0, _, n => (n, 0)
  | d + 1, i, n => if n * rd l i > 1048576 then (0, 3) else prodLoop l d (i + 1) (n * rd l i)
def space_Elements.f (l0 : List Int) : Option (Int × Int) :=
  some (if 4 < l0.length ∨ l0.any badDim = true then (0, 2) else if l0.contains 0 = true then (0, 0) else prodLoop l0 l0.length 0 1)
theorem good_rd {l : List Int} (h : l.any badDim = false) (i : Nat) (hi : i < l.length) : 0 ≤ rd l i ∧ rd l i ≤ 1048576 := by
  have e : rd l (i : Int) = l[i] := by simp [rd, hi]
  rw [e]
  have := List.any_eq_false.1 h l[i] (List.getElem_mem hi)
  simp [badDim] at this
  omega
set_option maxHeartbeats 1000000 in
theorem space_Elements.calls (A0 : Option Addr) (c0 : Nat) (l0 : List Int) (r1 : Int) (r2 : Int) (w : World) (hr0 : Kd.C (Kd.int .i64) w A0 l0.length l0) (hc0 : l0.length ≤ c0) (h : space_Elements.f l0 = some (r1, r2)) :
    Calls Try.prog 11 #[.slice A0 l0.length c0] w fun e w' => e = .returned (.tuple #[.int .i64 r1, .int .i64 r2]) ∧ Drawn0 w w' := by
  unfold space_Elements.f at h
  replace h := Option.some.inj h
  have HR0 := Aside0.mk hr0
  have HC0 := Aside0.mk hc0
  clear hr0 hc0
  by_cases h4 : 4 < l0.length
  · rw [if_pos (.inl h4)] at h
    cases h
    have h4' : decide ((l0.length : Int) > 4) = true := by simp; omega
    have h4'' : decide (4 < l0.length) = true := by simp; omega
    go_enter Try.func11, Try.ntmps11
    go_wp2
    go_ret2
    exact ⟨rfl, ⟨0, rfl⟩⟩
  · have hm : l0.length ≤ maxLen := by unfold maxLen; omega
    have HM := Aside0.mk hm
    clear hm
    have h4' : decide ((l0.length : Int) > 4) = false := by simp; omega
    have h4'' : decide (4 < l0.length) = false := by simp; omega
    by_cases hb : l0.any badDim = true
    · rw [if_pos (.inr hb)] at h
      cases h
      have HB := Aside0.mk hb
      clear hb
      go_enter Try.func11, Try.ntmps11
      go_wp2_with (go_at_call 26; refine (ContainsFunc_int 27 #[] badDim _ _ l0 _ (pred27 _) HR0.out HM.out).mono ?_; rintro e w' ⟨rfl, ⟨n2, rfl⟩⟩; rw [HB.out])
      go_ret2
      exact ⟨rfl, ⟨_, rfl⟩⟩
    · have hb : l0.any badDim = false := by simpa using hb
      have HB := Aside0.mk hb
      clear hb
      have HC := Aside0.mk (Contains_int_total l0 0 HM.out)
      rw [if_neg (by rw [HB.out]; simp; omega)] at h
      by_cases hz : l0.contains 0 = true
      · rw [if_pos hz] at h
        cases h
        have HZ := Aside0.mk hz
        clear hz
        go_enter Try.func11, Try.ntmps11
        go_wp2_with (first
          | (go_at_call 26; refine (ContainsFunc_int 27 #[] badDim _ _ l0 _ (pred27 _) HR0.out HM.out).mono ?_; rintro e w' ⟨rfl, ⟨n2, rfl⟩⟩; rw [HB.out])
          | (go_at_call 28; refine (slices_Contains_int_int.calls (l0.length + 1) _ _ l0 0 _ _ (Kd.C_drewN HR0.out _) HC0.out HC.out).mono ?_; rintro e w' ⟨rfl, ⟨n3, rfl⟩⟩; rw [HZ.out]))
        go_ret2
        exact ⟨rfl, ⟨_, rfl⟩⟩
      · have hz : l0.contains 0 = false := by simpa using hz
        have HZ := Aside0.mk hz
        clear hz
        rw [HZ.out, if_neg (by simp)] at h
        have HH := Aside0.mk h
        clear h
        go_enter Try.func11, Try.ntmps11
        go_wp2_with (first
          | (go_at_call 26; refine (ContainsFunc_int 27 #[] badDim _ _ l0 _ (pred27 _) HR0.out HM.out).mono ?_; rintro e w' ⟨rfl, ⟨n2, rfl⟩⟩; rw [HB.out])
          | (go_at_call 28; refine (slices_Contains_int_int.calls (l0.length + 1) _ _ l0 0 _ _ (Kd.C_drewN HR0.out _) HC0.out HC.out).mono ?_; rintro e w' ⟨rfl, ⟨n3, rfl⟩⟩; rw [HZ.out]))
        go_loopw [4, 18] (fun v i wr => ∃ (k : Nat) (n : Int), k ≤ l0.length ∧ i = .int .i64 k ∧ v = .int .i64 n ∧ 0 ≤ n ∧ n ≤ 1048576 ∧ Aside0 (prodLoop l0 (l0.length - k) k n = (r1, r2)) ∧ Drawn0 w wr) (fun _ i _ => l0.length - (intOf i).toNat)
        case atStart => exact ⟨0, 1, Nat.zero_le _, rfl, rfl, by omega, by omega, HH, ⟨_, rfl⟩⟩
        case round =>
          obtain ⟨k, n, hk, rfl, rfl, hn0, hn1, HE, ⟨nd, rfl⟩⟩ := hrel
          by_cases hlt : k < l0.length
          · obtain ⟨ad, e1, hx0⟩ := Kd.at_int HR0.out k (by omega) (by omega)
            cases e1
            have hx : w.cell? (ad.add k) = some (Value.int IntKind.i64 (rd l0 k)) := by simpa using hx0
            clear hx0
            have hg := good_rd HB.out k hlt
            have HN : Aside0 ((if n * rd l0 k > 1048576 then (0, 3) else prodLoop l0 (l0.length - (k + 1)) (k + 1) (n * rd l0 k)) = (r1, r2)) := ⟨by
              rw [← HE.out, show l0.length - k = (l0.length - (k + 1)) + 1 by omega, prodLoop]⟩
            generalize rd l0 k = y at hx HN hg
            have hy1 : 0 ≤ n * y := Int.mul_nonneg hn0 hg.1
            have hy2 : n * y ≤ 1048576 * 1048576 := Int.mul_le_mul hn1 hg.2 hg.1 (by omega)
            have hy3 : wrap64 (n * y) = n * y := by unfold wrap64; omega
            by_cases hbig : n * y > 1048576
            · have HN' := HN.out
              rw [if_pos hbig] at HN'
              cases HN'
              go_wp2
              go_ret2
              exact ⟨rfl, ⟨_, rfl⟩⟩
            · have HN' := HN.out
              rw [if_neg hbig] at HN'
              have HN2 := Aside0.mk HN'
              clear HN HN'
              go_wp2
              go_roundw
              case rel => exact ⟨k + 1, n * y, by omega, by go_num, rfl, hy1, by omega, HN2, ⟨_, rfl⟩⟩
              case measure => simp [intOf]; omega
          · have HN : Aside0 ((n, (0 : Int)) = (r1, r2)) := ⟨by rw [← HE.out, show l0.length - k = 0 by omega, prodLoop]⟩
            have HN' := HN.out
            cases HN'
            go_wp2
            go_ret2
            exact ⟨rfl, ⟨_, rfl⟩⟩


end Go.Proofs.Ytjbjofmcmjojlaa.Wk
