-- Written by wip/tools/hprint.py: walks by the kit's print.py, hand-written texts laid between them. Lean checks all of it.
import Derived.Test.YtjbjofmcmjojlaaWk0
import Derived.Test.YtjbjofmcmjojlaaWk1
namespace Go.Proofs.Ytjbjofmcmjojlaa.Wk
open Go.RowKit Go.Proofs.YtjbjofmcmjojlaaW.PrintWords Go.Proofs.YtjbjofmcmjojlaaW.PrintLast Go.Proofs.YtjbjofmcmjojlaaW.PrintMore
attribute [local go_sem] max2_int min2_int max_two min_two max_three min_three max_four min_four   -- for this text's walks alone
set_option linter.unusedVariables false
set_option linter.unusedSimpArgs false

/-! ### slices_ContainsFunc_int_int: function 26 -/
set_option maxHeartbeats 800000 in
theorem ContainsFunc_int (g : Nat) (C : Array Value) (p : Int → Bool) 
    (A0 : Option Addr) (c0 : Nat) (l0 : List Int) (w : World) (hp : PredAt g C p w) (hr0 : Kd.C (Kd.int .i64) w A0 l0.length l0) (hm : l0.length ≤ maxLen) :
    Calls Try.prog 26 #[.slice A0 l0.length c0, .func (.func g) #[] C] w fun e w' => e = .returned (.bool (l0.any p)) ∧ Drawn0 w w' := by
  have HR0 := Aside0.mk hr0
  clear hr0
  have HP := Aside0.mk hp
  clear hp
  have HM := Aside0.mk hm
  clear hm
  go_enter Try.func26, Try.ntmps26
  go_wp2_with (go_at_call 37; refine (IndexFunc_int g C p _ _ l0 _ HP.out HR0.out HM.out).mono ?_; rintro e w' ⟨rfl, ⟨n2, rfl⟩⟩)
  go_ret
  exact ⟨by rw [← idxFrom_any]; rfl, ⟨_, rfl⟩⟩


end Go.Proofs.Ytjbjofmcmjojlaa.Wk
