-- Written by wip/tools/hprint.py: walks by the kit's print.py, hand-written texts laid between them. Lean checks all of it.
import Derived.Test.YtjbjofmcmjojlaaWk0
namespace Go.Proofs.Ytjbjofmcmjojlaa.Wk
open Go.RowKit Go.Proofs.YtjbjofmcmjojlaaW.PrintWords Go.Proofs.YtjbjofmcmjojlaaW.PrintLast Go.Proofs.YtjbjofmcmjojlaaW.PrintMore
attribute [local go_sem] max2_int min2_int max_two min_two max_three min_three max_four min_four   -- for this text's walks alone
set_option linter.unusedVariables false
set_option linter.unusedSimpArgs false

/-! ### slices_Clone_int_int: function 36 -/
def slices_Clone_int_int.f (l0 : List Int) : Option (List Int) := if l0.length * 8 ≤ 140737488355328 then some l0 else none
set_option maxHeartbeats 1000000 in
theorem slices_Clone_int_int.calls (A0 : Option Addr) (c0 : Nat) (l0 : List Int) (r : List Int) (w : World) (hr0 : Kd.C (Kd.int .i64) w A0 l0.length l0) (hc0 : l0.length ≤ c0) (h : slices_Clone_int_int.f l0 = some r) :
    Calls Try.prog 36 #[.slice A0 l0.length c0] w fun e w' => ∃ v0_ : Value, e = .returned (v0_) ∧ Kd.R (Kd.int .i64) 3 w' w.heap.size (fun _ => True) v0_ r ∧ Below w.heap.size w w' := by
  unfold slices_Clone_int_int.f at h
  split at h
  case isFalse => cases h
  case isTrue hl =>
  replace h := Option.some.inj h
  subst h
  have HR0 := Aside0.mk hr0
  have HL := Aside0.mk hl
  clear hl
  have hq := fun (w : World) (a : Option Addr) (l c : Nat) => Go.Lib.run_eql_slice_nil (P := Try.prog) w 22 3 a l c 0 0 Try.underlying22
  cases A0 with
  | none =>
    have h0 : l0 = [] := by
      cases l0 with
      | nil => rfl
      | cons a t => obtain ⟨ad, e1, _⟩ := Kd.at_int hr0 0 (by omega) (by simp); cases e1
    subst h0
    clear hr0
    go_enter Try.func36, Try.ntmps36
    go_wp2
    go_ret
    exact ⟨_, rfl, Kd.R_nil _ _ _ _ _, Below.refl _ _⟩
  | some ad =>
    clear hr0
    have HB := Aside0.mk (Below.refl w.heap.size w)
    go_enter Try.func36, Try.ntmps36
    go_wp2_with (first
      | ((with_reducible refine gate_dst (N := 5) rfl ?_); refine Kd.R_lit (Kd.int .i64) (w0 := w) w.heap.size 3 ?hg (N := 5) ?hd (xs := ([] : List Int)) (inner := []) (ok := fun _ => True) (okp := fun _ => True) ?hr ?hp (fun _ hk => hk) trivial (Below.refl _ _) (Nat.le_refl _) (by simp) ?_; (case hd => rfl); (case hg => rfl); (case hr => first | (go_simp; done) | (go_simp; rfl)); (case hp => exact Reps.none _ _); intro v1 w1 hr1 hb1 hg1 hex; have HR1 := Aside0.mk hr1; have HB1 := Aside0.mk hb1; clear hr1 hb1 hg1 hex)
      | ((with_reducible refine gate_dst (N := 7) rfl ?_); refine Kd.R_append_row (w0 := w) (Value.int .i64) (0 : Int) w.heap.size ?hg (.tmp 5) (.tmp 6) 22 3 (.int .i64 0) 8 ?ho Try.underlying22 (by kernel_rfl) rfl (by omega) v1 [] l0 (some ad) l0.length c0 (fun _ => True) ?hs ?hx (fun _ _ => trivial) HR1.out (Kd.C_below HR0.out HB1.out) HB1.out HB1.out.size (by simpa using HL.out) ?_; (case hg => rfl); (case ho => rfl); (case hs => rfl); (case hx => rfl); intro v2 w2 hr2 hb2 hg2 hat; have HR2 := Aside0.mk hr2; have HB2 := Aside0.mk hb2; clear hr2 hb2 hg2 hat))
    go_ret
    exact ⟨_, rfl, HR2.out, HB2.out⟩


end Go.Proofs.Ytjbjofmcmjojlaa.Wk
