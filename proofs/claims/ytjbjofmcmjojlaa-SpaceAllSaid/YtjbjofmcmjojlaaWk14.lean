-- Written by wip/tools/hprint.py: walks by the kit's print.py, hand-written texts laid between them. Lean checks all of it.
import Derived.Test.YtjbjofmcmjojlaaWk0
import Derived.Test.YtjbjofmcmjojlaaWk13
namespace Go.Proofs.Ytjbjofmcmjojlaa.Wk
open Go.RowKit Go.Proofs.YtjbjofmcmjojlaaW.PrintWords Go.Proofs.YtjbjofmcmjojlaaW.PrintLast Go.Proofs.YtjbjofmcmjojlaaW.PrintMore
attribute [local go_sem] max2_int min2_int max_two min_two max_three min_three max_four min_four   -- for this text's walks alone
set_option linter.unusedVariables false
set_option linter.unusedSimpArgs false

/-! ### space_each: function 31 -/
section
open Go.Proofs.YtjbjofmcmjojlaaQ
attribute [local go_sem] Oper.semAt_some
theorem V_of_ints {e base c : Nat} {W : World} {A : Option Addr} {xs : List Int} (h : (Kd.int .i64).C W A xs.length xs) (hl : xs.length ≤ c) : (Kd.int .i64).V e W base (fun _ => True) (.slice A xs.length c) xs := by
  refine ⟨A, c, rfl, hl, fun W' hW => ?_⟩
  have hr := Kd.reads_of_C (d := (0 : Int)) (h1 := fun _ => rfl) h
  refine Kd.C_of_reads (d := (0 : Int)) (h1 := fun _ => rfl) ⟨hr.1, hr.2.1, fun hn => ?_⟩
  obtain ⟨ad, e1, hc⟩ := hr.2.2 hn
  refine ⟨ad, e1, fun j hj => ?_⟩
  have hcj := hc j hj
  have hlt := World.block_lt_of_cell? W _ hcj
  unfold World.cell? at hcj ⊢
  rw [hW _ trivial hlt]
  exact hcj

set_option maxHeartbeats 1000000 in
theorem space_each (A0 : Option Addr) (c0 : Nat) (l0 : List Int) (a1_0 : Int) (A1_1 : Option Addr) (c1_1 : Nat) (l1_1 : List (List Int)) (A1_2 : Option Addr) (c1_2 : Nat) (l1_2 : List Int) (A1_3 : Option Addr) (c1_3 : Nat) (l1_3 : List Int) (A1_4 : Option Addr) (c1_4 : Nat) (l1_4 : List Int) (A1_5 : Option Addr) (c1_5 : Nat) (l1_5 : List Int) (w : World) :
    Calls Try.prog 31 #[.slice A0 l0.length c0, .agg #[.int .i64 a1_0, .slice A1_1 l1_1.length c1_1, .slice A1_2 l1_2.length c1_2, .slice A1_3 l1_3.length c1_3, .slice A1_4 l1_4.length c1_4, .slice A1_5 l1_5.length c1_5]] w
      fun e w' => e = .returned (.func (.func 42) #[] #[.pointer (some ⟨w.heap.size + 1, 0, none⟩), .pointer (some ⟨w.heap.size, 0, none⟩)]) ∧
        w' = (w.alloc (.cells #[.slice A0 l0.length c0] 22)).alloc (.cells #[.int .i64 a1_0, .slice A1_1 l1_1.length c1_1, .slice A1_2 l1_2.length c1_2, .slice A1_3 l1_3.length c1_3, .slice A1_4 l1_4.length c1_4, .slice A1_5 l1_5.length c1_5] 33) := by
  have hu33 := Try.underlying33
  go_enter Try.func31, Try.ntmps31
  go_wp2
  go_ret
  exact ⟨rfl, rfl⟩

/-- What the selection's iterator reads, in every world that keeps what lay in W and the two boxes. -/
theorem selMem_of (A0 : Option Addr) (c0 : Nat) (l0 : List Int) (a1_0 : Int) (A1_1 : Option Addr) (c1_1 : Nat) (l1_1 : List (List Int)) (A1_2 : Option Addr) (c1_2 : Nat) (l1_2 : List Int) (A1_3 : Option Addr) (c1_3 : Nat) (l1_3 : List Int) (A1_4 : Option Addr) (c1_4 : Nat) (l1_4 : List Int) (A1_5 : Option Addr) (c1_5 : Nat) (l1_5 : List Int) (w W : World) (Bs Bd : Nat) (hw : Below w.heap.size w W)
    (hbd : W.heap[Bd]? = some (.cells #[.slice A0 l0.length c0] 22 (0, 0))) (hbs : W.heap[Bs]? = some (.cells #[.int .i64 a1_0, .slice A1_1 l1_1.length c1_1, .slice A1_2 l1_2.length c1_2, .slice A1_3 l1_3.length c1_3, .slice A1_4 l1_4.length c1_4, .slice A1_5 l1_5.length c1_5] 33 (0, 0))) (hr0 : Kd.C (Kd.int .i64) w A0 l0.length l0) (hc0 : l0.length ≤ c0) (hr1_1 : Kd.C (Kd.slice 3 (Kd.int .i64)) w A1_1 l1_1.length l1_1) (hc1_1 : l1_1.length ≤ c1_1) (hr1_2 : Kd.C (Kd.int .i64) w A1_2 l1_2.length l1_2) (hc1_2 : l1_2.length ≤ c1_2) (hr1_3 : Kd.C (Kd.int .i64) w A1_3 l1_3.length l1_3) (hc1_3 : l1_3.length ≤ c1_3) (hr1_4 : Kd.C (Kd.int .i64) w A1_4 l1_4.length l1_4) (hc1_4 : l1_4.length ≤ c1_4) (hr1_5 : Kd.C (Kd.int .i64) w A1_5 l1_5.length l1_5) (hc1_5 : l1_5.length ≤ c1_5) :
    SelMem W Bs Bd A0 c0 l0 a1_0 A1_1 c1_1 l1_1 A1_2 c1_2 l1_2 A1_3 c1_3 l1_3 A1_4 c1_4 l1_4 A1_5 c1_5 l1_5 where
  cd := by unfold World.cell?; rw [hbd]; rfl
  k0 := by unfold World.cell?; rw [hbs]; rfl
  k1 := by unfold World.cell?; rw [hbs]; rfl
  k2 := by unfold World.cell?; rw [hbs]; rfl
  k3 := by unfold World.cell?; rw [hbs]; rfl
  k4 := by unfold World.cell?; rw [hbs]; rfl
  k5 := by unfold World.cell?; rw [hbs]; rfl
  r0 := Kd.C_below hr0 hw
  r1 := Kd.C_below hr1_1 hw
  r2 := Kd.C_below hr1_2 hw
  r3 := Kd.C_below hr1_3 hw
  r4 := Kd.C_below hr1_4 hw
  r5 := Kd.C_below hr1_5 hw
  b0 := hc0
  b1 := hc1_1
  b2 := hc1_2
  b3 := hc1_3
  b4 := hc1_4
  b5 := hc1_5

end


end Go.Proofs.Ytjbjofmcmjojlaa.Wk
