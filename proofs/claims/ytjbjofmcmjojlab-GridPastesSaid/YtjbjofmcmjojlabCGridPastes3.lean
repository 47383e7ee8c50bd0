-- Texts that the row GridPastes leans on, joined by wip/tools/mkclaim.py: Wk44, Wk45, Wk50, Wk51, Wk1, Wk34, Wk35, Plain13, Wk29, Wk30, Wk31, Wk32, Plain13b, Wk54, Wk55, PlainCover, PlainByte, Wk46, PlainCut, PlainCut2, PlainCut3, PlainCut4, PlainCut5
import Derived.Test.YtjbjofmcmjojlabCGridPastes2
section
namespace Go.Proofs.Ytjbjofmcmjojlab.Wk
open Go.RowKit Go.Proofs.YtjbjofmcmjojlabW.PrintWords Go.Proofs.YtjbjofmcmjojlabW.PrintLast Go.Proofs.YtjbjofmcmjojlabW.PrintMore
attribute [local go_sem] max2_int min2_int max_two min_two max_three min_three max_four min_four
set_option linter.unusedVariables false
set_option linter.unusedSimpArgs false
def slabvaultref13_where.l0 : Nat → List Int → List Int → List Int → List Int → List Int → Int → Option (List Int × Bool)
  | 0, _, _, _, _, _, _ => none
  | k + 1, x0, x1, x2, x3, x10, x11 => if x11 < (x0.length : Int) then (if 0 ≤ x11 then (if x11 < (x2.length : Int) then (if (rd x2 x11) > (rd x0 x11) then (some (([] : List Int), false)) else (if x11 < (x1.length : Int) then (if x11 < (x3.length : Int) then (if (wrap64 ((wrap64 ((rd x2 x11) * (rd x1 x11))) + (rd x3 x11))) ≥ (rd x0 x11) then (some (([] : List Int), false)) else (if x10.length < 17592186044416 then (slabvaultref13_where.l0 k x0 x1 x2 x3 (x10 ++ [wrap64 ((wrap64 ((rd x2 x11) * (rd x1 x11))) + (rd x3 x11))]) (wrap64 (x11 + 1))) else (none))) else (none)) else (none))) else (none)) else (none)) else (some (x10, true))
def slabvaultref13_where.f (k : Nat) (l0 : List Int) (l1 : List Int) (l2 : List Int) (l3 : List Int) : Option (List Int × Bool) := slabvaultref13_where.l0 k l0 l1 l2 l3 ([] : List Int) 0
def slabvaultref13_where.T5 : Bool × List (List Nat × List Nat) := (true, [([], []), ([], []), ([0, 1], [0, 1]), ([2], [2]), ([], []), ([], []), ([4, 5], [4, 5]), ([6], [6]), ([3, 7], [3, 7]), ([8], [8]), ([9], [9]), ([9], [9]), ([10, 11, 9], [9, 10, 11]), ([12, 9], [9, 12]), ([9], [9]), ([9], [9]), ([14, 15, 9], [9, 14, 15]), ([16, 9], [9, 16]), ([13, 17, 9], [9, 13, 17]), ([9], [9]), ([9], [9]), ([19, 20, 9], [9, 19, 20]), ([21, 9], [9, 21]), ([18, 22, 9], [9, 18, 22]), ([9], [9]), ([9], [9]), ([24, 25, 9], [9, 24, 25]), ([26, 9], [9, 26]), ([23, 27, 9], [9, 23, 27]), ([9, 28], [9, 28])])
def slabvaultref13_where.B5 : List Nat := [0, 0, 3, 7, 0, 0, 48, 112, 255, 511, 1023, 1023, 4095, 8191, 1023, 1023, 50175, 115711, 262143, 1023, 1023, 1573887, 3671039, 8388607, 1023, 1023, 50332671, 117441535, 268435455, 536870911]
theorem slabvaultref13_where.tab5 : rtab .any (opsOf Try.f46 5) = slabvaultref13_where.T5 := by kernel_rfl
theorem slabvaultref13_where.bits5 : waitsOk slabvaultref13_where.T5.2 slabvaultref13_where.B5 = true := by kernel_rfl
def slabvaultref13_where.T7 : Bool × List (List Nat × List Nat) := (true, [([], []), ([], []), ([], []), ([1, 2], [1, 2]), ([3], [3]), ([], []), ([], []), ([5, 6], [5, 6]), ([7], [7]), ([4, 8], [4, 8]), ([], []), ([], []), ([10, 11], [10, 11]), ([12], [12]), ([9, 13], [9, 13]), ([14], [14]), ([0, 15], [0, 15]), ([16, 16, 0, 1, 2, 3, 4, 5, 6, 7, 8, 9, 10, 11, 12, 13, 14, 15, 16], [0, 16])])
def slabvaultref13_where.B7 : List Nat := [0, 0, 0, 6, 14, 0, 0, 96, 224, 510, 0, 0, 3072, 7168, 16382, 32766, 65535, 131071]
theorem slabvaultref13_where.tab7 : rtab .any (opsOf Try.f46 7) = slabvaultref13_where.T7 := by kernel_rfl
theorem slabvaultref13_where.bits7 : waitsOk slabvaultref13_where.T7.2 slabvaultref13_where.B7 = true := by kernel_rfl
set_option maxHeartbeats 8000000 in
set_option maxRecDepth 100000 in
theorem slabvaultref13_where.calls (k : Nat) (A0 : Option Addr) (c0 : Nat) (l0 : List Int) (A1 : Option Addr) (c1 : Nat) (l1 : List Int) (A2 : Option Addr) (c2 : Nat) (l2 : List Int) (A3 : Option Addr) (c3 : Nat) (l3 : List Int) (r1 : List Int) (r2 : Bool) (w : World) (hr0 : Kd.C (Kd.int .i64) w A0 l0.length l0) (hc0 : l0.length ≤ c0) (hr1 : Kd.C (Kd.int .i64) w A1 l1.length l1) (hc1 : l1.length ≤ c1) (hr2 : Kd.C (Kd.int .i64) w A2 l2.length l2) (hc2 : l2.length ≤ c2) (hr3 : Kd.C (Kd.int .i64) w A3 l3.length l3) (hc3 : l3.length ≤ c3) (h : slabvaultref13_where.f k l0 l1 l2 l3 = some (r1, r2)) :
    Calls Try.prog 46 #[.slice A0 l0.length c0, .slice A1 l1.length c1, .slice A2 l2.length c2, .slice A3 l3.length c3] w fun e w' => ∃ v0_ : Value, e = .returned (.tuple #[v0_, .bool r2]) ∧ Kd.R (Kd.int .i64) 3 w' w.heap.size (fun _ => True) v0_ r1 ∧ Below w.heap.size w w' := by
  have HR0 := Aside0.mk hr0
  have HC0 := Aside0.mk hc0
  clear hr0 hc0
  have HR1 := Aside0.mk hr1
  have HC1 := Aside0.mk hc1
  clear hr1 hc1
  have HR2 := Aside0.mk hr2
  have HC2 := Aside0.mk hc2
  clear hr2 hc2
  have HR3 := Aside0.mk hr3
  have HC3 := Aside0.mk hc3
  clear hr3 hc3
  have HB := Aside0.mk (Below.refl w.heap.size w)
  have H : (slabvaultref13_where.l0 k l0 l1 l2 l3 ([] : List Int) 0) = some (r1, r2) := h
  clear h
  have H' := Aside0.mk H
  clear H
  go_enter Try.func46, Try.ntmps46
  go_wp2
  go_loopg [10, 11] k (fun kq v10 v11 w' => ∃ (x10_1 : List Int) (x11_1 : Int), v11 = .int .i64 x11_1 ∧ Aside0 (slabvaultref13_where.l0 kq l0 l1 l2 l3 x10_1 x11_1 = some (r1, r2)) ∧ Aside0 (kq ≤ k) ∧ Aside0 (Kd.R (Kd.int .i64) 3 w' w.heap.size (fun _ => True) v10 x10_1) ∧ Aside0 (Below w.heap.size w w'))
  case atStart => exact ⟨(([] : List Int)), (0), (by first | rfl | (simp; done) | (simp [*]; done)), H', ⟨Nat.le_refl _⟩, ⟨by first | exact Kd.R_nil _ _ _ _ _ | exact Kd.N_nil _ _ _ _ _ | exact Kd.V_nil _ _ _ _ _ | exact Kd.Q_nil _ _ _ _ _ | exact Kd.S_nil _ _ _ _ _⟩, ⟨by repeat (first | (with_reducible first | exact HB.out | apply below_alloc | apply pw_below_drewN | apply below_drew1) | exact HB.out)⟩⟩
  case round =>
    clear H'
    try clear c1
    try clear c2
    try clear p2
    try clear c3
    try clear c4
    obtain ⟨x10_1, x11_1, rfl, HA, HK1, HO_10, HB⟩ := hrel
    cases gk with
    | zero => exact absurd HA.out (by simp [slabvaultref13_where.l0])
    | succ k1 =>
      have H := HA.out
      clear HA
      simp only [slabvaultref13_where.l0] at H
      by_cases c5 : x11_1 < (l0.length : Int)
      · rw [if_pos c5] at H
        have c5b0 : decide (x11_1 < (l0.length : Int)) = true := decide_eq_true c5
        clear c5
        by_cases c6 : 0 ≤ x11_1
        · rw [if_pos c6] at H
          have c6b0 : decide (0 ≤ x11_1) = true := decide_eq_true c6
          clear c6
          by_cases c7 : x11_1 < (l2.length : Int)
          · rw [if_pos c7] at H
            have c7b0 : decide (x11_1 < (l2.length : Int)) = true := decide_eq_true c7
            clear c7
            by_cases c8 : (rd l2 x11_1) > (rd l0 x11_1)
            · rw [if_pos c8] at H
              have c8b0 : decide ((rd l0 x11_1) < (rd l2 x11_1)) = true := decide_eq_true c8
              clear c8
              simp only [Option.some.injEq, Prod.mk.injEq] at H
              obtain ⟨rfl, rfl⟩ := H
              try go_wp2
              have n0_ := Aside0.mk (Kd.R_drew HO_10.out)
              have n1_ := Aside0.mk (below_drew1 HB.out)
              clear HO_10
              clear HB
              have HO_10 := n0_
              have HB := n1_
              clear n0_ n1_
              have p270 : 0 ≤ (x11_1 : Int) := of_decide_eq_true (by first | (with_reducible assumption) | assumption)
              have q270 : x11_1 < (l2.length : Int) := of_decide_eq_true (by first | (with_reducible assumption) | assumption)
              obtain ⟨ad270, e270, hx270_0⟩ := Kd.at_int HR2.out x11_1 p270 q270
              have hw270_0 := hx270_0
              cases e270
              replace hx270_0 := (HB.out.cell (World.block_lt_of_cell? w _ hx270_0)).trans hx270_0
              replace p270 := eq_true p270
              replace q270 := eq_true q270
              have p271 : 0 ≤ (x11_1 : Int) := of_decide_eq_true (by first | (with_reducible assumption) | assumption)
              have q271 : x11_1 < (l0.length : Int) := of_decide_eq_true (by first | (with_reducible assumption) | assumption)
              obtain ⟨ad271, e271, hx271_0⟩ := Kd.at_int HR0.out x11_1 p271 q271
              have hw271_0 := hx271_0
              cases e271
              replace hx271_0 := (HB.out.cell (World.block_lt_of_cell? w _ hx271_0)).trans hx271_0
              replace p271 := eq_true p271
              replace q271 := eq_true q271
              refine start_ (n := 30) (S := fun w' => w'.cell? (ad270.add (x11_1).toNat) = some (.int .i64 (rd l2 x11_1)) ∧ w'.cell? (ad271.add (x11_1).toNat) = some (.int .i64 (rd l0 x11_1))) (ds := []) #[false, false, false, false, false, false, false, false, false, false, false, false, false, false, false, false, false, false, false, false, false, false, false, false, false, false, false, false, false, false] (by kernel_rfl) rfl rfl ⟨((HB.out.cell (World.block_lt_of_cell? w _ hw270_0)).trans hw270_0), ((HB.out.cell (World.block_lt_of_cell? w _ hw271_0)).trans hw271_0)⟩ (fun hHeld => ?_); refine with_tabW slabvaultref13_where.tab5 slabvaultref13_where.bits5 (fun HT_ HW_ => ?_)
              generalize wr.drew = w9 at HO_10 HB hx270_0 hx271_0 hHeld ⊢
              refine pure_ (i := 0) (N := some 18) (v := ?_) (a' := ?_) #[true, false, false, false, false, false, false, false, false, false, false, false, false, false, false, false, false, false, false, false, false, false, false, false, false, false, false, false, false, false] rfl rfl (any_of HT_.out (by kernel_rfl)) (fun _ _ _ h => h) (Or.inl ⟨by rfl, ?_⟩) ?_ ?_
              rotate_left
              · intro w'
                go_simp
                with_reducible rfl
              rotate_left
              · simp only [Act.put, List.setIfInBounds_toArray, List.set_cons_zero, List.set_cons_succ, i64_w, i32_w]
                rfl
              refine pure_ (i := 1) (N := some 19) (v := ?_) (a' := ?_) #[true, true, false, false, false, false, false, false, false, false, false, false, false, false, false, false, false, false, false, false, false, false, false, false, false, false, false, false, false, false] rfl rfl (any_of HT_.out (by kernel_rfl)) (fun _ _ _ h => h) (Or.inl ⟨by rfl, ?_⟩) ?_ ?_
              rotate_left
              · intro w'
                go_simp
                with_reducible rfl
              rotate_left
              · simp only [Act.put, List.setIfInBounds_toArray, List.set_cons_zero, List.set_cons_succ, i64_w, i32_w]
                rfl
              refine pure_ (i := 2) (N := some 20) (v := ?_) (a' := ?_) #[true, true, true, false, false, false, false, false, false, false, false, false, false, false, false, false, false, false, false, false, false, false, false, false, false, false, false, false, false, false] rfl rfl (any_of HT_.out (by kernel_rfl)) (fun _ _ _ h => h) (Or.inl ⟨by rfl, ?_⟩) ?_ ?_
              rotate_left
              · intro w'
                go_simp
                with_reducible rfl
              rotate_left
              · simp only [Act.put, List.setIfInBounds_toArray, List.set_cons_zero, List.set_cons_succ, i64_w, i32_w]
                rfl
              refine pure_ (i := 4) (N := some 22) (v := ?_) (a' := ?_) #[true, true, true, false, true, false, false, false, false, false, false, false, false, false, false, false, false, false, false, false, false, false, false, false, false, false, false, false, false, false] rfl rfl (any_of HT_.out (by kernel_rfl)) (fun _ _ _ h => h) (Or.inl ⟨by rfl, ?_⟩) ?_ ?_
              rotate_left
              · intro w'
                go_simp
                with_reducible rfl
              rotate_left
              · simp only [Act.put, List.setIfInBounds_toArray, List.set_cons_zero, List.set_cons_succ, i64_w, i32_w]
                rfl
              refine pure_ (i := 5) (N := some 23) (v := ?_) (a' := ?_) #[true, true, true, false, true, true, false, false, false, false, false, false, false, false, false, false, false, false, false, false, false, false, false, false, false, false, false, false, false, false] rfl rfl (any_of HT_.out (by kernel_rfl)) (fun _ _ _ h => h) (Or.inl ⟨by rfl, ?_⟩) ?_ ?_
              rotate_left
              · intro w'
                go_simp
                with_reducible rfl
              rotate_left
              · simp only [Act.put, List.setIfInBounds_toArray, List.set_cons_zero, List.set_cons_succ, i64_w, i32_w]
                rfl
              refine pure_ (i := 6) (N := some 24) (v := ?_) (a' := ?_) #[true, true, true, false, true, true, true, false, false, false, false, false, false, false, false, false, false, false, false, false, false, false, false, false, false, false, false, false, false, false] rfl rfl (any_of HT_.out (by kernel_rfl)) (fun _ _ _ h => h) (Or.inl ⟨by rfl, ?_⟩) ?_ ?_
              rotate_left
              · intro w'
                go_simp
                with_reducible rfl
              rotate_left
              · simp only [Act.put, List.setIfInBounds_toArray, List.set_cons_zero, List.set_cons_succ, i64_w, i32_w]
                rfl
              refine take_ (i := 3) (N := some 21) (v := ?_) (a' := ?_) #[true, true, true, true, true, true, true, false, false, false, false, false, false, false, false, false, false, false, false, false, false, false, false, false, false, false, false, false, false, false] rfl rfl (take_ofW HT_.out HW_.out (by kernel_rfl)) (fun _ _ _ h => h) (Or.inl ⟨by rfl, ?_⟩) hHeld ?_ ?_
              rotate_left
              · rintro w' ⟨s0, s1⟩
                go_simp
                with_reducible rfl
              rotate_left
              · simp only [Act.put, List.setIfInBounds_toArray, List.set_cons_zero, List.set_cons_succ, i64_w, i32_w]
                rfl
              refine take_ (i := 7) (N := some 25) (v := ?_) (a' := ?_) #[true, true, true, true, true, true, true, true, false, false, false, false, false, false, false, false, false, false, false, false, false, false, false, false, false, false, false, false, false, false] rfl rfl (take_ofW HT_.out HW_.out (by kernel_rfl)) (fun _ _ _ h => h) (Or.inl ⟨by rfl, ?_⟩) hHeld ?_ ?_
              rotate_left
              · rintro w' ⟨s0, s1⟩
                go_simp
                with_reducible rfl
              rotate_left
              · simp only [Act.put, List.setIfInBounds_toArray, List.set_cons_zero, List.set_cons_succ, i64_w, i32_w]
                rfl
              refine pure_ (i := 8) (N := some 26) (v := ?_) (a' := ?_) #[true, true, true, true, true, true, true, true, true, false, false, false, false, false, false, false, false, false, false, false, false, false, false, false, false, false, false, false, false, false] rfl rfl (any_of HT_.out (by kernel_rfl)) (fun _ _ _ h => h) (Or.inl ⟨by rfl, ?_⟩) ?_ ?_
              rotate_left
              · intro w'
                go_simp
                with_reducible rfl
              rotate_left
              · simp only [Act.put, List.setIfInBounds_toArray, List.set_cons_zero, List.set_cons_succ, i64_w, i32_w]
                rfl
              refine pure_ (i := 9) (N := some 27) (v := ?_) (a' := ?_) #[true, true, true, true, true, true, true, true, true, true, false, false, false, false, false, false, false, false, false, false, false, false, false, false, false, false, false, false, false, false] rfl rfl (any_of HT_.out (by kernel_rfl)) (fun _ _ _ h => h) (Or.inl ⟨by rfl, ?_⟩) ?_ ?_
              rotate_left
              · intro w'
                go_simp
                with_reducible rfl
              rotate_left
              · simp only [Act.put, List.setIfInBounds_toArray, List.set_cons_zero, List.set_cons_succ, i64_w, i32_w]
                rfl
              refine pure_ (i := 10) (N := some 28) (v := undef) (a' := ?_) #[true, true, true, true, true, true, true, true, true, true, true, false, false, false, false, false, false, false, false, false, false, false, false, false, false, false, false, false, false, false] rfl rfl (any_of HT_.out (by kernel_rfl)) (fun _ _ _ h => h) (Or.inr ⟨by rfl, rfl⟩) ?_ ?_
              rotate_left
              · simp only [Act.put, List.setIfInBounds_toArray, List.set_cons_zero, List.set_cons_succ, i64_w, i32_w]
                rfl
              refine pure_ (i := 11) (N := some 29) (v := undef) (a' := ?_) #[true, true, true, true, true, true, true, true, true, true, true, true, false, false, false, false, false, false, false, false, false, false, false, false, false, false, false, false, false, false] rfl rfl (any_of HT_.out (by kernel_rfl)) (fun _ _ _ h => h) (Or.inr ⟨by rfl, rfl⟩) ?_ ?_
              rotate_left
              · simp only [Act.put, List.setIfInBounds_toArray, List.set_cons_zero, List.set_cons_succ, i64_w, i32_w]
                rfl
              refine pure_ (i := 12) (N := some 30) (v := undef) (a' := ?_) #[true, true, true, true, true, true, true, true, true, true, true, true, true, false, false, false, false, false, false, false, false, false, false, false, false, false, false, false, false, false] rfl rfl (any_of HT_.out (by kernel_rfl)) (fun _ _ _ h => h) (Or.inr ⟨by rfl, rfl⟩) ?_ ?_
              rotate_left
              · simp only [Act.put, List.setIfInBounds_toArray, List.set_cons_zero, List.set_cons_succ, i64_w, i32_w]
                rfl
              refine pure_ (i := 13) (N := some 31) (v := undef) (a' := ?_) #[true, true, true, true, true, true, true, true, true, true, true, true, true, true, false, false, false, false, false, false, false, false, false, false, false, false, false, false, false, false] rfl rfl (any_of HT_.out (by kernel_rfl)) (fun _ _ _ h => h) (Or.inr ⟨by rfl, rfl⟩) ?_ ?_
              rotate_left
              · simp only [Act.put, List.setIfInBounds_toArray, List.set_cons_zero, List.set_cons_succ, i64_w, i32_w]
                rfl
              refine pure_ (i := 14) (N := some 32) (v := undef) (a' := ?_) #[true, true, true, true, true, true, true, true, true, true, true, true, true, true, true, false, false, false, false, false, false, false, false, false, false, false, false, false, false, false] rfl rfl (any_of HT_.out (by kernel_rfl)) (fun _ _ _ h => h) (Or.inr ⟨by rfl, rfl⟩) ?_ ?_
              rotate_left
              · simp only [Act.put, List.setIfInBounds_toArray, List.set_cons_zero, List.set_cons_succ, i64_w, i32_w]
                rfl
              refine pure_ (i := 15) (N := some 33) (v := undef) (a' := ?_) #[true, true, true, true, true, true, true, true, true, true, true, true, true, true, true, true, false, false, false, false, false, false, false, false, false, false, false, false, false, false] rfl rfl (any_of HT_.out (by kernel_rfl)) (fun _ _ _ h => h) (Or.inr ⟨by rfl, rfl⟩) ?_ ?_
              rotate_left
              · simp only [Act.put, List.setIfInBounds_toArray, List.set_cons_zero, List.set_cons_succ, i64_w, i32_w]
                rfl
              refine pure_ (i := 16) (N := some 34) (v := undef) (a' := ?_) #[true, true, true, true, true, true, true, true, true, true, true, true, true, true, true, true, true, false, false, false, false, false, false, false, false, false, false, false, false, false] rfl rfl (any_of HT_.out (by kernel_rfl)) (fun _ _ _ h => h) (Or.inr ⟨by rfl, rfl⟩) ?_ ?_
              rotate_left
              · simp only [Act.put, List.setIfInBounds_toArray, List.set_cons_zero, List.set_cons_succ, i64_w, i32_w]
                rfl
              refine pure_ (i := 17) (N := some 35) (v := undef) (a' := ?_) #[true, true, true, true, true, true, true, true, true, true, true, true, true, true, true, true, true, true, false, false, false, false, false, false, false, false, false, false, false, false] rfl rfl (any_of HT_.out (by kernel_rfl)) (fun _ _ _ h => h) (Or.inr ⟨by rfl, rfl⟩) ?_ ?_
              rotate_left
              · simp only [Act.put, List.setIfInBounds_toArray, List.set_cons_zero, List.set_cons_succ, i64_w, i32_w]
                rfl
              refine pure_ (i := 18) (N := some 36) (v := undef) (a' := ?_) #[true, true, true, true, true, true, true, true, true, true, true, true, true, true, true, true, true, true, true, false, false, false, false, false, false, false, false, false, false, false] rfl rfl (any_of HT_.out (by kernel_rfl)) (fun _ _ _ h => h) (Or.inr ⟨by rfl, rfl⟩) ?_ ?_
              rotate_left
              · simp only [Act.put, List.setIfInBounds_toArray, List.set_cons_zero, List.set_cons_succ, i64_w, i32_w]
                rfl
              refine pure_ (i := 19) (N := some 37) (v := undef) (a' := ?_) #[true, true, true, true, true, true, true, true, true, true, true, true, true, true, true, true, true, true, true, true, false, false, false, false, false, false, false, false, false, false] rfl rfl (any_of HT_.out (by kernel_rfl)) (fun _ _ _ h => h) (Or.inr ⟨by rfl, rfl⟩) ?_ ?_
              rotate_left
              · simp only [Act.put, List.setIfInBounds_toArray, List.set_cons_zero, List.set_cons_succ, i64_w, i32_w]
                rfl
              refine pure_ (i := 20) (N := some 38) (v := undef) (a' := ?_) #[true, true, true, true, true, true, true, true, true, true, true, true, true, true, true, true, true, true, true, true, true, false, false, false, false, false, false, false, false, false] rfl rfl (any_of HT_.out (by kernel_rfl)) (fun _ _ _ h => h) (Or.inr ⟨by rfl, rfl⟩) ?_ ?_
              rotate_left
              · simp only [Act.put, List.setIfInBounds_toArray, List.set_cons_zero, List.set_cons_succ, i64_w, i32_w]
                rfl
              refine pure_ (i := 21) (N := some 39) (v := undef) (a' := ?_) #[true, true, true, true, true, true, true, true, true, true, true, true, true, true, true, true, true, true, true, true, true, true, false, false, false, false, false, false, false, false] rfl rfl (any_of HT_.out (by kernel_rfl)) (fun _ _ _ h => h) (Or.inr ⟨by rfl, rfl⟩) ?_ ?_
              rotate_left
              · simp only [Act.put, List.setIfInBounds_toArray, List.set_cons_zero, List.set_cons_succ, i64_w, i32_w]
                rfl
              refine pure_ (i := 22) (N := some 40) (v := undef) (a' := ?_) #[true, true, true, true, true, true, true, true, true, true, true, true, true, true, true, true, true, true, true, true, true, true, true, false, false, false, false, false, false, false] rfl rfl (any_of HT_.out (by kernel_rfl)) (fun _ _ _ h => h) (Or.inr ⟨by rfl, rfl⟩) ?_ ?_
              rotate_left
              · simp only [Act.put, List.setIfInBounds_toArray, List.set_cons_zero, List.set_cons_succ, i64_w, i32_w]
                rfl
              refine pure_ (i := 23) (N := some 41) (v := undef) (a' := ?_) #[true, true, true, true, true, true, true, true, true, true, true, true, true, true, true, true, true, true, true, true, true, true, true, true, false, false, false, false, false, false] rfl rfl (any_of HT_.out (by kernel_rfl)) (fun _ _ _ h => h) (Or.inr ⟨by rfl, rfl⟩) ?_ ?_
              rotate_left
              · simp only [Act.put, List.setIfInBounds_toArray, List.set_cons_zero, List.set_cons_succ, i64_w, i32_w]
                rfl
              refine pure_ (i := 24) (N := some 42) (v := undef) (a' := ?_) #[true, true, true, true, true, true, true, true, true, true, true, true, true, true, true, true, true, true, true, true, true, true, true, true, true, false, false, false, false, false] rfl rfl (any_of HT_.out (by kernel_rfl)) (fun _ _ _ h => h) (Or.inr ⟨by rfl, rfl⟩) ?_ ?_
              rotate_left
              · simp only [Act.put, List.setIfInBounds_toArray, List.set_cons_zero, List.set_cons_succ, i64_w, i32_w]
                rfl
              refine pure_ (i := 25) (N := some 43) (v := undef) (a' := ?_) #[true, true, true, true, true, true, true, true, true, true, true, true, true, true, true, true, true, true, true, true, true, true, true, true, true, true, false, false, false, false] rfl rfl (any_of HT_.out (by kernel_rfl)) (fun _ _ _ h => h) (Or.inr ⟨by rfl, rfl⟩) ?_ ?_
              rotate_left
              · simp only [Act.put, List.setIfInBounds_toArray, List.set_cons_zero, List.set_cons_succ, i64_w, i32_w]
                rfl
              refine pure_ (i := 26) (N := some 44) (v := undef) (a' := ?_) #[true, true, true, true, true, true, true, true, true, true, true, true, true, true, true, true, true, true, true, true, true, true, true, true, true, true, true, false, false, false] rfl rfl (any_of HT_.out (by kernel_rfl)) (fun _ _ _ h => h) (Or.inr ⟨by rfl, rfl⟩) ?_ ?_
              rotate_left
              · simp only [Act.put, List.setIfInBounds_toArray, List.set_cons_zero, List.set_cons_succ, i64_w, i32_w]
                rfl
              refine pure_ (i := 27) (N := some 45) (v := undef) (a' := ?_) #[true, true, true, true, true, true, true, true, true, true, true, true, true, true, true, true, true, true, true, true, true, true, true, true, true, true, true, true, false, false] rfl rfl (any_of HT_.out (by kernel_rfl)) (fun _ _ _ h => h) (Or.inr ⟨by rfl, rfl⟩) ?_ ?_
              rotate_left
              · simp only [Act.put, List.setIfInBounds_toArray, List.set_cons_zero, List.set_cons_succ, i64_w, i32_w]
                rfl
              refine pure_ (i := 28) (N := some 46) (v := undef) (a' := ?_) #[true, true, true, true, true, true, true, true, true, true, true, true, true, true, true, true, true, true, true, true, true, true, true, true, true, true, true, true, true, false] rfl rfl (any_of HT_.out (by kernel_rfl)) (fun _ _ _ h => h) (Or.inr ⟨by rfl, rfl⟩) ?_ ?_
              rotate_left
              · simp only [Act.put, List.setIfInBounds_toArray, List.set_cons_zero, List.set_cons_succ, i64_w, i32_w]
                rfl
              refine pure_ (i := 29) (N := some 47) (v := ?_) (a' := ?_) #[true, true, true, true, true, true, true, true, true, true, true, true, true, true, true, true, true, true, true, true, true, true, true, true, true, true, true, true, true, true] rfl rfl (any_of HT_.out (by kernel_rfl)) (fun _ _ _ h => h) (Or.inl ⟨by rfl, ?_⟩) ?_ ?_
              rotate_left
              · intro w'
                go_simp
                with_reducible rfl
              rotate_left
              · simp only [Act.put, List.setIfInBounds_toArray, List.set_cons_zero, List.set_cons_succ, i64_w, i32_w]
                rfl
              refine done_ (done_of HT_.out (by kernel_rfl)) ?_
              try go_wp2
              go_ret2
              exact ⟨_, by first | rfl | (simp [errW_none, errW_some] <;> rfl) | (simp [*, errW_none, errW_some] <;> rfl), by first | exact Kd.R_nil _ _ _ _ _ | exact Kd.N_nil _ _ _ _ _ | exact Kd.V_nil _ _ _ _ _ | exact Kd.Q_nil _ _ _ _ _ | exact Kd.S_nil _ _ _ _ _, by repeat (first | (with_reducible first | exact HB.out | apply below_alloc | apply pw_below_drewN | apply below_drew1) | exact HB.out)⟩
            · rw [if_neg c8] at H
              have c8b0 : decide ((rd l0 x11_1) < (rd l2 x11_1)) = false := decide_eq_false c8
              clear c8
              by_cases c10 : x11_1 < (l1.length : Int)
              · rw [if_pos c10] at H
                have c10b0 : decide (x11_1 < (l1.length : Int)) = true := decide_eq_true c10
                clear c10
                by_cases c11 : x11_1 < (l3.length : Int)
                · rw [if_pos c11] at H
                  have c11b0 : decide (x11_1 < (l3.length : Int)) = true := decide_eq_true c11
                  clear c11
                  by_cases c12 : (wrap64 ((wrap64 ((rd l2 x11_1) * (rd l1 x11_1))) + (rd l3 x11_1))) ≥ (rd l0 x11_1)
                  · rw [if_pos c12] at H
                    have c12b0 : decide ((rd l0 x11_1) ≤ (wrap64 ((wrap64 ((rd l2 x11_1) * (rd l1 x11_1))) + (rd l3 x11_1)))) = true := decide_eq_true c12
                    clear c12
                    simp only [Option.some.injEq, Prod.mk.injEq] at H
                    obtain ⟨rfl, rfl⟩ := H
                    try go_wp2
                    have n0_ := Aside0.mk (Kd.R_drew HO_10.out)
                    have n1_ := Aside0.mk (below_drew1 HB.out)
                    clear HO_10
                    clear HB
                    have HO_10 := n0_
                    have HB := n1_
                    clear n0_ n1_
                    have p270 : 0 ≤ (x11_1 : Int) := of_decide_eq_true (by first | (with_reducible assumption) | assumption)
                    have q270 : x11_1 < (l2.length : Int) := of_decide_eq_true (by first | (with_reducible assumption) | assumption)
                    obtain ⟨ad270, e270, hx270_0⟩ := Kd.at_int HR2.out x11_1 p270 q270
                    have hw270_0 := hx270_0
                    cases e270
                    replace hx270_0 := (HB.out.cell (World.block_lt_of_cell? w _ hx270_0)).trans hx270_0
                    replace p270 := eq_true p270
                    replace q270 := eq_true q270
                    have p271 : 0 ≤ (x11_1 : Int) := of_decide_eq_true (by first | (with_reducible assumption) | assumption)
                    have q271 : x11_1 < (l0.length : Int) := of_decide_eq_true (by first | (with_reducible assumption) | assumption)
                    obtain ⟨ad271, e271, hx271_0⟩ := Kd.at_int HR0.out x11_1 p271 q271
                    have hw271_0 := hx271_0
                    cases e271
                    replace hx271_0 := (HB.out.cell (World.block_lt_of_cell? w _ hx271_0)).trans hx271_0
                    replace p271 := eq_true p271
                    replace q271 := eq_true q271
                    have p272 : 0 ≤ (x11_1 : Int) := of_decide_eq_true (by first | (with_reducible assumption) | assumption)
                    have q272 : x11_1 < (l2.length : Int) := of_decide_eq_true (by first | (with_reducible assumption) | assumption)
                    obtain ⟨ad272, e272, hx272_0⟩ := Kd.at_int HR2.out x11_1 p272 q272
                    have hw272_0 := hx272_0
                    obtain rfl : ad270 = ad272 := (by injection e272)
                    replace hx272_0 := (HB.out.cell (World.block_lt_of_cell? w _ hx272_0)).trans hx272_0
                    replace p272 := eq_true p272
                    replace q272 := eq_true q272
                    have p273 : 0 ≤ (x11_1 : Int) := of_decide_eq_true (by first | (with_reducible assumption) | assumption)
                    have q273 : x11_1 < (l1.length : Int) := of_decide_eq_true (by first | (with_reducible assumption) | assumption)
                    obtain ⟨ad273, e273, hx273_0⟩ := Kd.at_int HR1.out x11_1 p273 q273
                    have hw273_0 := hx273_0
                    cases e273
                    replace hx273_0 := (HB.out.cell (World.block_lt_of_cell? w _ hx273_0)).trans hx273_0
                    replace p273 := eq_true p273
                    replace q273 := eq_true q273
                    have p274 : 0 ≤ (x11_1 : Int) := of_decide_eq_true (by first | (with_reducible assumption) | assumption)
                    have q274 : x11_1 < (l3.length : Int) := of_decide_eq_true (by first | (with_reducible assumption) | assumption)
                    obtain ⟨ad274, e274, hx274_0⟩ := Kd.at_int HR3.out x11_1 p274 q274
                    have hw274_0 := hx274_0
                    cases e274
                    replace hx274_0 := (HB.out.cell (World.block_lt_of_cell? w _ hx274_0)).trans hx274_0
                    replace p274 := eq_true p274
                    replace q274 := eq_true q274
                    have p275 : 0 ≤ (x11_1 : Int) := of_decide_eq_true (by first | (with_reducible assumption) | assumption)
                    have q275 : x11_1 < (l0.length : Int) := of_decide_eq_true (by first | (with_reducible assumption) | assumption)
                    obtain ⟨ad275, e275, hx275_0⟩ := Kd.at_int HR0.out x11_1 p275 q275
                    have hw275_0 := hx275_0
                    obtain rfl : ad271 = ad275 := (by injection e275)
                    replace hx275_0 := (HB.out.cell (World.block_lt_of_cell? w _ hx275_0)).trans hx275_0
                    replace p275 := eq_true p275
                    replace q275 := eq_true q275
                    refine start_ (n := 30) (S := fun w' => w'.cell? (ad270.add (x11_1).toNat) = some (.int .i64 (rd l2 x11_1)) ∧ w'.cell? (ad271.add (x11_1).toNat) = some (.int .i64 (rd l0 x11_1)) ∧ w'.cell? (ad270.add (x11_1).toNat) = some (.int .i64 (rd l2 x11_1)) ∧ w'.cell? (ad273.add (x11_1).toNat) = some (.int .i64 (rd l1 x11_1)) ∧ w'.cell? (ad274.add (x11_1).toNat) = some (.int .i64 (rd l3 x11_1)) ∧ w'.cell? (ad271.add (x11_1).toNat) = some (.int .i64 (rd l0 x11_1))) (ds := []) #[false, false, false, false, false, false, false, false, false, false, false, false, false, false, false, false, false, false, false, false, false, false, false, false, false, false, false, false, false, false] (by kernel_rfl) rfl rfl ⟨((HB.out.cell (World.block_lt_of_cell? w _ hw270_0)).trans hw270_0), ((HB.out.cell (World.block_lt_of_cell? w _ hw271_0)).trans hw271_0), ((HB.out.cell (World.block_lt_of_cell? w _ hw272_0)).trans hw272_0), ((HB.out.cell (World.block_lt_of_cell? w _ hw273_0)).trans hw273_0), ((HB.out.cell (World.block_lt_of_cell? w _ hw274_0)).trans hw274_0), ((HB.out.cell (World.block_lt_of_cell? w _ hw275_0)).trans hw275_0)⟩ (fun hHeld => ?_); refine with_tabW slabvaultref13_where.tab5 slabvaultref13_where.bits5 (fun HT_ HW_ => ?_)
                    generalize wr.drew = w13 at HO_10 HB hx270_0 hx271_0 hx272_0 hx273_0 hx274_0 hx275_0 hHeld ⊢
                    refine pure_ (i := 0) (N := some 18) (v := ?_) (a' := ?_) #[true, false, false, false, false, false, false, false, false, false, false, false, false, false, false, false, false, false, false, false, false, false, false, false, false, false, false, false, false, false] rfl rfl (any_of HT_.out (by kernel_rfl)) (fun _ _ _ h => h) (Or.inl ⟨by rfl, ?_⟩) ?_ ?_
                    rotate_left
                    · intro w'
                      go_simp
                      with_reducible rfl
                    rotate_left
                    · simp only [Act.put, List.setIfInBounds_toArray, List.set_cons_zero, List.set_cons_succ, i64_w, i32_w]
                      rfl
                    refine pure_ (i := 1) (N := some 19) (v := ?_) (a' := ?_) #[true, true, false, false, false, false, false, false, false, false, false, false, false, false, false, false, false, false, false, false, false, false, false, false, false, false, false, false, false, false] rfl rfl (any_of HT_.out (by kernel_rfl)) (fun _ _ _ h => h) (Or.inl ⟨by rfl, ?_⟩) ?_ ?_
                    rotate_left
                    · intro w'
                      go_simp
                      with_reducible rfl
                    rotate_left
                    · simp only [Act.put, List.setIfInBounds_toArray, List.set_cons_zero, List.set_cons_succ, i64_w, i32_w]
                      rfl
                    refine pure_ (i := 2) (N := some 20) (v := ?_) (a' := ?_) #[true, true, true, false, false, false, false, false, false, false, false, false, false, false, false, false, false, false, false, false, false, false, false, false, false, false, false, false, false, false] rfl rfl (any_of HT_.out (by kernel_rfl)) (fun _ _ _ h => h) (Or.inl ⟨by rfl, ?_⟩) ?_ ?_
                    rotate_left
                    · intro w'
                      go_simp
                      with_reducible rfl
                    rotate_left
                    · simp only [Act.put, List.setIfInBounds_toArray, List.set_cons_zero, List.set_cons_succ, i64_w, i32_w]
                      rfl
                    refine pure_ (i := 4) (N := some 22) (v := ?_) (a' := ?_) #[true, true, true, false, true, false, false, false, false, false, false, false, false, false, false, false, false, false, false, false, false, false, false, false, false, false, false, false, false, false] rfl rfl (any_of HT_.out (by kernel_rfl)) (fun _ _ _ h => h) (Or.inl ⟨by rfl, ?_⟩) ?_ ?_
                    rotate_left
                    · intro w'
                      go_simp
                      with_reducible rfl
                    rotate_left
                    · simp only [Act.put, List.setIfInBounds_toArray, List.set_cons_zero, List.set_cons_succ, i64_w, i32_w]
                      rfl
                    refine pure_ (i := 5) (N := some 23) (v := ?_) (a' := ?_) #[true, true, true, false, true, true, false, false, false, false, false, false, false, false, false, false, false, false, false, false, false, false, false, false, false, false, false, false, false, false] rfl rfl (any_of HT_.out (by kernel_rfl)) (fun _ _ _ h => h) (Or.inl ⟨by rfl, ?_⟩) ?_ ?_
                    rotate_left
                    · intro w'
                      go_simp
                      with_reducible rfl
                    rotate_left
                    · simp only [Act.put, List.setIfInBounds_toArray, List.set_cons_zero, List.set_cons_succ, i64_w, i32_w]
                      rfl
                    refine pure_ (i := 6) (N := some 24) (v := ?_) (a' := ?_) #[true, true, true, false, true, true, true, false, false, false, false, false, false, false, false, false, false, false, false, false, false, false, false, false, false, false, false, false, false, false] rfl rfl (any_of HT_.out (by kernel_rfl)) (fun _ _ _ h => h) (Or.inl ⟨by rfl, ?_⟩) ?_ ?_
                    rotate_left
                    · intro w'
                      go_simp
                      with_reducible rfl
                    rotate_left
                    · simp only [Act.put, List.setIfInBounds_toArray, List.set_cons_zero, List.set_cons_succ, i64_w, i32_w]
                      rfl
                    refine take_ (i := 3) (N := some 21) (v := ?_) (a' := ?_) #[true, true, true, true, true, true, true, false, false, false, false, false, false, false, false, false, false, false, false, false, false, false, false, false, false, false, false, false, false, false] rfl rfl (take_ofW HT_.out HW_.out (by kernel_rfl)) (fun _ _ _ h => h) (Or.inl ⟨by rfl, ?_⟩) hHeld ?_ ?_
                    rotate_left
                    · rintro w' ⟨s0, s1, s2, s3, s4, s5⟩
                      go_simp
                      with_reducible rfl
                    rotate_left
                    · simp only [Act.put, List.setIfInBounds_toArray, List.set_cons_zero, List.set_cons_succ, i64_w, i32_w]
                      rfl
                    refine take_ (i := 7) (N := some 25) (v := ?_) (a' := ?_) #[true, true, true, true, true, true, true, true, false, false, false, false, false, false, false, false, false, false, false, false, false, false, false, false, false, false, false, false, false, false] rfl rfl (take_ofW HT_.out HW_.out (by kernel_rfl)) (fun _ _ _ h => h) (Or.inl ⟨by rfl, ?_⟩) hHeld ?_ ?_
                    rotate_left
                    · rintro w' ⟨s0, s1, s2, s3, s4, s5⟩
                      go_simp
                      with_reducible rfl
                    rotate_left
                    · simp only [Act.put, List.setIfInBounds_toArray, List.set_cons_zero, List.set_cons_succ, i64_w, i32_w]
                      rfl
                    refine pure_ (i := 8) (N := some 26) (v := ?_) (a' := ?_) #[true, true, true, true, true, true, true, true, true, false, false, false, false, false, false, false, false, false, false, false, false, false, false, false, false, false, false, false, false, false] rfl rfl (any_of HT_.out (by kernel_rfl)) (fun _ _ _ h => h) (Or.inl ⟨by rfl, ?_⟩) ?_ ?_
                    rotate_left
                    · intro w'
                      go_simp
                      with_reducible rfl
                    rotate_left
                    · simp only [Act.put, List.setIfInBounds_toArray, List.set_cons_zero, List.set_cons_succ, i64_w, i32_w]
                      rfl
                    refine pure_ (i := 9) (N := some 27) (v := ?_) (a' := ?_) #[true, true, true, true, true, true, true, true, true, true, false, false, false, false, false, false, false, false, false, false, false, false, false, false, false, false, false, false, false, false] rfl rfl (any_of HT_.out (by kernel_rfl)) (fun _ _ _ h => h) (Or.inl ⟨by rfl, ?_⟩) ?_ ?_
                    rotate_left
                    · intro w'
                      go_simp
                      with_reducible rfl
                    rotate_left
                    · simp only [Act.put, List.setIfInBounds_toArray, List.set_cons_zero, List.set_cons_succ, i64_w, i32_w]
                      rfl
                    refine pure_ (i := 10) (N := some 28) (v := ?_) (a' := ?_) #[true, true, true, true, true, true, true, true, true, true, true, false, false, false, false, false, false, false, false, false, false, false, false, false, false, false, false, false, false, false] rfl rfl (any_of HT_.out (by kernel_rfl)) (fun _ _ _ h => h) (Or.inl ⟨by rfl, ?_⟩) ?_ ?_
                    rotate_left
                    · intro w'
                      go_simp
                      with_reducible rfl
                    rotate_left
                    · simp only [Act.put, List.setIfInBounds_toArray, List.set_cons_zero, List.set_cons_succ, i64_w, i32_w]
                      rfl
                    refine pure_ (i := 11) (N := some 29) (v := ?_) (a' := ?_) #[true, true, true, true, true, true, true, true, true, true, true, true, false, false, false, false, false, false, false, false, false, false, false, false, false, false, false, false, false, false] rfl rfl (any_of HT_.out (by kernel_rfl)) (fun _ _ _ h => h) (Or.inl ⟨by rfl, ?_⟩) ?_ ?_
                    rotate_left
                    · intro w'
                      go_simp
                      with_reducible rfl
                    rotate_left
                    · simp only [Act.put, List.setIfInBounds_toArray, List.set_cons_zero, List.set_cons_succ, i64_w, i32_w]
                      rfl
                    refine pure_ (i := 12) (N := some 30) (v := ?_) (a' := ?_) #[true, true, true, true, true, true, true, true, true, true, true, true, true, false, false, false, false, false, false, false, false, false, false, false, false, false, false, false, false, false] rfl rfl (any_of HT_.out (by kernel_rfl)) (fun _ _ _ h => h) (Or.inl ⟨by rfl, ?_⟩) ?_ ?_
                    rotate_left
                    · intro w'
                      go_simp
                      with_reducible rfl
                    rotate_left
                    · simp only [Act.put, List.setIfInBounds_toArray, List.set_cons_zero, List.set_cons_succ, i64_w, i32_w]
                      rfl
                    refine pure_ (i := 14) (N := some 32) (v := ?_) (a' := ?_) #[true, true, true, true, true, true, true, true, true, true, true, true, true, false, true, false, false, false, false, false, false, false, false, false, false, false, false, false, false, false] rfl rfl (any_of HT_.out (by kernel_rfl)) (fun _ _ _ h => h) (Or.inl ⟨by rfl, ?_⟩) ?_ ?_
                    rotate_left
                    · intro w'
                      go_simp
                      with_reducible rfl
                    rotate_left
                    · simp only [Act.put, List.setIfInBounds_toArray, List.set_cons_zero, List.set_cons_succ, i64_w, i32_w]
                      rfl
                    refine pure_ (i := 15) (N := some 33) (v := ?_) (a' := ?_) #[true, true, true, true, true, true, true, true, true, true, true, true, true, false, true, true, false, false, false, false, false, false, false, false, false, false, false, false, false, false] rfl rfl (any_of HT_.out (by kernel_rfl)) (fun _ _ _ h => h) (Or.inl ⟨by rfl, ?_⟩) ?_ ?_
                    rotate_left
                    · intro w'
                      go_simp
                      with_reducible rfl
                    rotate_left
                    · simp only [Act.put, List.setIfInBounds_toArray, List.set_cons_zero, List.set_cons_succ, i64_w, i32_w]
                      rfl
                    refine pure_ (i := 16) (N := some 34) (v := ?_) (a' := ?_) #[true, true, true, true, true, true, true, true, true, true, true, true, true, false, true, true, true, false, false, false, false, false, false, false, false, false, false, false, false, false] rfl rfl (any_of HT_.out (by kernel_rfl)) (fun _ _ _ h => h) (Or.inl ⟨by rfl, ?_⟩) ?_ ?_
                    rotate_left
                    · intro w'
                      go_simp
                      with_reducible rfl
                    rotate_left
                    · simp only [Act.put, List.setIfInBounds_toArray, List.set_cons_zero, List.set_cons_succ, i64_w, i32_w]
                      rfl
                    refine pure_ (i := 19) (N := some 37) (v := ?_) (a' := ?_) #[true, true, true, true, true, true, true, true, true, true, true, true, true, false, true, true, true, false, false, true, false, false, false, false, false, false, false, false, false, false] rfl rfl (any_of HT_.out (by kernel_rfl)) (fun _ _ _ h => h) (Or.inl ⟨by rfl, ?_⟩) ?_ ?_
                    rotate_left
                    · intro w'
                      go_simp
                      with_reducible rfl
                    rotate_left
                    · simp only [Act.put, List.setIfInBounds_toArray, List.set_cons_zero, List.set_cons_succ, i64_w, i32_w]
                      rfl
                    refine pure_ (i := 20) (N := some 38) (v := ?_) (a' := ?_) #[true, true, true, true, true, true, true, true, true, true, true, true, true, false, true, true, true, false, false, true, true, false, false, false, false, false, false, false, false, false] rfl rfl (any_of HT_.out (by kernel_rfl)) (fun _ _ _ h => h) (Or.inl ⟨by rfl, ?_⟩) ?_ ?_
                    rotate_left
                    · intro w'
                      go_simp
                      with_reducible rfl
                    rotate_left
                    · simp only [Act.put, List.setIfInBounds_toArray, List.set_cons_zero, List.set_cons_succ, i64_w, i32_w]
                      rfl
                    refine pure_ (i := 21) (N := some 39) (v := ?_) (a' := ?_) #[true, true, true, true, true, true, true, true, true, true, true, true, true, false, true, true, true, false, false, true, true, true, false, false, false, false, false, false, false, false] rfl rfl (any_of HT_.out (by kernel_rfl)) (fun _ _ _ h => h) (Or.inl ⟨by rfl, ?_⟩) ?_ ?_
                    rotate_left
                    · intro w'
                      go_simp
                      with_reducible rfl
                    rotate_left
                    · simp only [Act.put, List.setIfInBounds_toArray, List.set_cons_zero, List.set_cons_succ, i64_w, i32_w]
                      rfl
                    refine pure_ (i := 24) (N := some 42) (v := ?_) (a' := ?_) #[true, true, true, true, true, true, true, true, true, true, true, true, true, false, true, true, true, false, false, true, true, true, false, false, true, false, false, false, false, false] rfl rfl (any_of HT_.out (by kernel_rfl)) (fun _ _ _ h => h) (Or.inl ⟨by rfl, ?_⟩) ?_ ?_
                    rotate_left
                    · intro w'
                      go_simp
                      with_reducible rfl
                    rotate_left
                    · simp only [Act.put, List.setIfInBounds_toArray, List.set_cons_zero, List.set_cons_succ, i64_w, i32_w]
                      rfl
                    refine pure_ (i := 25) (N := some 43) (v := ?_) (a' := ?_) #[true, true, true, true, true, true, true, true, true, true, true, true, true, false, true, true, true, false, false, true, true, true, false, false, true, true, false, false, false, false] rfl rfl (any_of HT_.out (by kernel_rfl)) (fun _ _ _ h => h) (Or.inl ⟨by rfl, ?_⟩) ?_ ?_
                    rotate_left
                    · intro w'
                      go_simp
                      with_reducible rfl
                    rotate_left
                    · simp only [Act.put, List.setIfInBounds_toArray, List.set_cons_zero, List.set_cons_succ, i64_w, i32_w]
                      rfl
                    refine pure_ (i := 26) (N := some 44) (v := ?_) (a' := ?_) #[true, true, true, true, true, true, true, true, true, true, true, true, true, false, true, true, true, false, false, true, true, true, false, false, true, true, true, false, false, false] rfl rfl (any_of HT_.out (by kernel_rfl)) (fun _ _ _ h => h) (Or.inl ⟨by rfl, ?_⟩) ?_ ?_
                    rotate_left
                    · intro w'
                      go_simp
                      with_reducible rfl
                    rotate_left
                    · simp only [Act.put, List.setIfInBounds_toArray, List.set_cons_zero, List.set_cons_succ, i64_w, i32_w]
                      rfl
                    refine take_ (i := 13) (N := some 31) (v := ?_) (a' := ?_) #[true, true, true, true, true, true, true, true, true, true, true, true, true, true, true, true, true, false, false, true, true, true, false, false, true, true, true, false, false, false] rfl rfl (take_ofW HT_.out HW_.out (by kernel_rfl)) (fun _ _ _ h => h) (Or.inl ⟨by rfl, ?_⟩) hHeld ?_ ?_
                    rotate_left
                    · rintro w' ⟨s0, s1, s2, s3, s4, s5⟩
                      go_simp
                      with_reducible rfl
                    rotate_left
                    · simp only [Act.put, List.setIfInBounds_toArray, List.set_cons_zero, List.set_cons_succ, i64_w, i32_w]
                      rfl
                    refine take_ (i := 17) (N := some 35) (v := ?_) (a' := ?_) #[true, true, true, true, true, true, true, true, true, true, true, true, true, true, true, true, true, true, false, true, true, true, false, false, true, true, true, false, false, false] rfl rfl (take_ofW HT_.out HW_.out (by kernel_rfl)) (fun _ _ _ h => h) (Or.inl ⟨by rfl, ?_⟩) hHeld ?_ ?_
                    rotate_left
                    · rintro w' ⟨s0, s1, s2, s3, s4, s5⟩
                      go_simp
                      with_reducible rfl
                    rotate_left
                    · simp only [Act.put, List.setIfInBounds_toArray, List.set_cons_zero, List.set_cons_succ, i64_w, i32_w]
                      rfl
                    refine pure_ (i := 18) (N := some 36) (v := ?_) (a' := ?_) #[true, true, true, true, true, true, true, true, true, true, true, true, true, true, true, true, true, true, true, true, true, true, false, false, true, true, true, false, false, false] rfl rfl (any_of HT_.out (by kernel_rfl)) (fun _ _ _ h => h) (Or.inl ⟨by rfl, ?_⟩) ?_ ?_
                    rotate_left
                    · intro w'
                      go_simp
                      with_reducible rfl
                    rotate_left
                    · simp only [Act.put, List.setIfInBounds_toArray, List.set_cons_zero, List.set_cons_succ, i64_w, i32_w]
                      rfl
                    refine take_ (i := 22) (N := some 40) (v := ?_) (a' := ?_) #[true, true, true, true, true, true, true, true, true, true, true, true, true, true, true, true, true, true, true, true, true, true, true, false, true, true, true, false, false, false] rfl rfl (take_ofW HT_.out HW_.out (by kernel_rfl)) (fun _ _ _ h => h) (Or.inl ⟨by rfl, ?_⟩) hHeld ?_ ?_
                    rotate_left
                    · rintro w' ⟨s0, s1, s2, s3, s4, s5⟩
                      go_simp
                      with_reducible rfl
                    rotate_left
                    · simp only [Act.put, List.setIfInBounds_toArray, List.set_cons_zero, List.set_cons_succ, i64_w, i32_w]
                      rfl
                    refine pure_ (i := 23) (N := some 41) (v := ?_) (a' := ?_) #[true, true, true, true, true, true, true, true, true, true, true, true, true, true, true, true, true, true, true, true, true, true, true, true, true, true, true, false, false, false] rfl rfl (any_of HT_.out (by kernel_rfl)) (fun _ _ _ h => h) (Or.inl ⟨by rfl, ?_⟩) ?_ ?_
                    rotate_left
                    · intro w'
                      go_simp
                      with_reducible rfl
                    rotate_left
                    · simp only [Act.put, List.setIfInBounds_toArray, List.set_cons_zero, List.set_cons_succ, i64_w, i32_w]
                      rfl
                    refine take_ (i := 27) (N := some 45) (v := ?_) (a' := ?_) #[true, true, true, true, true, true, true, true, true, true, true, true, true, true, true, true, true, true, true, true, true, true, true, true, true, true, true, true, false, false] rfl rfl (take_ofW HT_.out HW_.out (by kernel_rfl)) (fun _ _ _ h => h) (Or.inl ⟨by rfl, ?_⟩) hHeld ?_ ?_
                    rotate_left
                    · rintro w' ⟨s0, s1, s2, s3, s4, s5⟩
                      go_simp
                      with_reducible rfl
                    rotate_left
                    · simp only [Act.put, List.setIfInBounds_toArray, List.set_cons_zero, List.set_cons_succ, i64_w, i32_w]
                      rfl
                    refine pure_ (i := 28) (N := some 46) (v := ?_) (a' := ?_) #[true, true, true, true, true, true, true, true, true, true, true, true, true, true, true, true, true, true, true, true, true, true, true, true, true, true, true, true, true, false] rfl rfl (any_of HT_.out (by kernel_rfl)) (fun _ _ _ h => h) (Or.inl ⟨by rfl, ?_⟩) ?_ ?_
                    rotate_left
                    · intro w'
                      go_simp
                      with_reducible rfl
                    rotate_left
                    · simp only [Act.put, List.setIfInBounds_toArray, List.set_cons_zero, List.set_cons_succ, i64_w, i32_w]
                      rfl
                    refine pure_ (i := 29) (N := some 47) (v := ?_) (a' := ?_) #[true, true, true, true, true, true, true, true, true, true, true, true, true, true, true, true, true, true, true, true, true, true, true, true, true, true, true, true, true, true] rfl rfl (any_of HT_.out (by kernel_rfl)) (fun _ _ _ h => h) (Or.inl ⟨by rfl, ?_⟩) ?_ ?_
                    rotate_left
                    · intro w'
                      go_simp
                      with_reducible rfl
                    rotate_left
                    · simp only [Act.put, List.setIfInBounds_toArray, List.set_cons_zero, List.set_cons_succ, i64_w, i32_w]
                      rfl
                    refine done_ (done_of HT_.out (by kernel_rfl)) ?_
                    try go_wp2
                    go_ret2
                    exact ⟨_, by first | rfl | (simp [errW_none, errW_some] <;> rfl) | (simp [*, errW_none, errW_some] <;> rfl), by first | exact Kd.R_nil _ _ _ _ _ | exact Kd.N_nil _ _ _ _ _ | exact Kd.V_nil _ _ _ _ _ | exact Kd.Q_nil _ _ _ _ _ | exact Kd.S_nil _ _ _ _ _, by repeat (first | (with_reducible first | exact HB.out | apply below_alloc | apply pw_below_drewN | apply below_drew1) | exact HB.out)⟩
                  · rw [if_neg c12] at H
                    have c12b0 : decide ((rd l0 x11_1) ≤ (wrap64 ((wrap64 ((rd l2 x11_1) * (rd l1 x11_1))) + (rd l3 x11_1)))) = false := decide_eq_false c12
                    clear c12
                    by_cases c14 : x10_1.length < 17592186044416
                    · rw [if_pos c14] at H
                      have LMc14 := Aside0.mk c14
                      clear c14
                      obtain ⟨y279, hy279⟩ : ∃ y_ : List Int, y_ = (x10_1 ++ [wrap64 ((wrap64 ((rd l2 x11_1) * (rd l1 x11_1))) + (rd l3 x11_1))]) := ⟨_, rfl⟩
                      replace H : (slabvaultref13_where.l0 k1 l0 l1 l2 l3 y279 (wrap64 (x11_1 + 1))) = some (r1, r2) := by first | (rw [hy279]; with_reducible exact H) | (have H2_ := (Option.bind_some _ _).symm.trans H; rw [hy279]; with_reducible exact H2_) | (have H2_ := (Option.bind_some _ _).symm.trans H; with_reducible exact H2_) | with_reducible exact H | (rw [hy279]; exact H) | exact H
                      have Ny279 := Aside0.mk hy279
                      clear hy279
                      have H' := Aside0.mk H
                      clear H
                      try go_wp2
                      have n0_ := Aside0.mk (Kd.R_drew HO_10.out)
                      have n1_ := Aside0.mk (below_drew1 HB.out)
                      clear HO_10
                      clear HB
                      have HO_10 := n0_
                      have HB := n1_
                      clear n0_ n1_
                      have p270 : 0 ≤ (x11_1 : Int) := of_decide_eq_true (by first | (with_reducible assumption) | assumption)
                      have q270 : x11_1 < (l2.length : Int) := of_decide_eq_true (by first | (with_reducible assumption) | assumption)
                      obtain ⟨ad270, e270, hx270_0⟩ := Kd.at_int HR2.out x11_1 p270 q270
                      have hw270_0 := hx270_0
                      cases e270
                      replace hx270_0 := (HB.out.cell (World.block_lt_of_cell? w _ hx270_0)).trans hx270_0
                      replace p270 := eq_true p270
                      replace q270 := eq_true q270
                      have p271 : 0 ≤ (x11_1 : Int) := of_decide_eq_true (by first | (with_reducible assumption) | assumption)
                      have q271 : x11_1 < (l0.length : Int) := of_decide_eq_true (by first | (with_reducible assumption) | assumption)
                      obtain ⟨ad271, e271, hx271_0⟩ := Kd.at_int HR0.out x11_1 p271 q271
                      have hw271_0 := hx271_0
                      cases e271
                      replace hx271_0 := (HB.out.cell (World.block_lt_of_cell? w _ hx271_0)).trans hx271_0
                      replace p271 := eq_true p271
                      replace q271 := eq_true q271
                      have p272 : 0 ≤ (x11_1 : Int) := of_decide_eq_true (by first | (with_reducible assumption) | assumption)
                      have q272 : x11_1 < (l2.length : Int) := of_decide_eq_true (by first | (with_reducible assumption) | assumption)
                      obtain ⟨ad272, e272, hx272_0⟩ := Kd.at_int HR2.out x11_1 p272 q272
                      have hw272_0 := hx272_0
                      obtain rfl : ad270 = ad272 := (by injection e272)
                      replace hx272_0 := (HB.out.cell (World.block_lt_of_cell? w _ hx272_0)).trans hx272_0
                      replace p272 := eq_true p272
                      replace q272 := eq_true q272
                      have p273 : 0 ≤ (x11_1 : Int) := of_decide_eq_true (by first | (with_reducible assumption) | assumption)
                      have q273 : x11_1 < (l1.length : Int) := of_decide_eq_true (by first | (with_reducible assumption) | assumption)
                      obtain ⟨ad273, e273, hx273_0⟩ := Kd.at_int HR1.out x11_1 p273 q273
                      have hw273_0 := hx273_0
                      cases e273
                      replace hx273_0 := (HB.out.cell (World.block_lt_of_cell? w _ hx273_0)).trans hx273_0
                      replace p273 := eq_true p273
                      replace q273 := eq_true q273
                      have p274 : 0 ≤ (x11_1 : Int) := of_decide_eq_true (by first | (with_reducible assumption) | assumption)
                      have q274 : x11_1 < (l3.length : Int) := of_decide_eq_true (by first | (with_reducible assumption) | assumption)
                      obtain ⟨ad274, e274, hx274_0⟩ := Kd.at_int HR3.out x11_1 p274 q274
                      have hw274_0 := hx274_0
                      cases e274
                      replace hx274_0 := (HB.out.cell (World.block_lt_of_cell? w _ hx274_0)).trans hx274_0
                      replace p274 := eq_true p274
                      replace q274 := eq_true q274
                      have p275 : 0 ≤ (x11_1 : Int) := of_decide_eq_true (by first | (with_reducible assumption) | assumption)
                      have q275 : x11_1 < (l0.length : Int) := of_decide_eq_true (by first | (with_reducible assumption) | assumption)
                      obtain ⟨ad275, e275, hx275_0⟩ := Kd.at_int HR0.out x11_1 p275 q275
                      have hw275_0 := hx275_0
                      obtain rfl : ad271 = ad275 := (by injection e275)
                      replace hx275_0 := (HB.out.cell (World.block_lt_of_cell? w _ hx275_0)).trans hx275_0
                      replace p275 := eq_true p275
                      replace q275 := eq_true q275
                      refine start_ (n := 30) (S := fun w' => w'.cell? (ad270.add (x11_1).toNat) = some (.int .i64 (rd l2 x11_1)) ∧ w'.cell? (ad271.add (x11_1).toNat) = some (.int .i64 (rd l0 x11_1)) ∧ w'.cell? (ad270.add (x11_1).toNat) = some (.int .i64 (rd l2 x11_1)) ∧ w'.cell? (ad273.add (x11_1).toNat) = some (.int .i64 (rd l1 x11_1)) ∧ w'.cell? (ad274.add (x11_1).toNat) = some (.int .i64 (rd l3 x11_1)) ∧ w'.cell? (ad271.add (x11_1).toNat) = some (.int .i64 (rd l0 x11_1))) (ds := []) #[false, false, false, false, false, false, false, false, false, false, false, false, false, false, false, false, false, false, false, false, false, false, false, false, false, false, false, false, false, false] (by kernel_rfl) rfl rfl ⟨((HB.out.cell (World.block_lt_of_cell? w _ hw270_0)).trans hw270_0), ((HB.out.cell (World.block_lt_of_cell? w _ hw271_0)).trans hw271_0), ((HB.out.cell (World.block_lt_of_cell? w _ hw272_0)).trans hw272_0), ((HB.out.cell (World.block_lt_of_cell? w _ hw273_0)).trans hw273_0), ((HB.out.cell (World.block_lt_of_cell? w _ hw274_0)).trans hw274_0), ((HB.out.cell (World.block_lt_of_cell? w _ hw275_0)).trans hw275_0)⟩ (fun hHeld => ?_); refine with_tabW slabvaultref13_where.tab5 slabvaultref13_where.bits5 (fun HT_ HW_ => ?_)
                      generalize wr.drew = w15 at HO_10 HB hx270_0 hx271_0 hx272_0 hx273_0 hx274_0 hx275_0 hHeld ⊢
                      refine pure_ (i := 0) (N := some 18) (v := ?_) (a' := ?_) #[true, false, false, false, false, false, false, false, false, false, false, false, false, false, false, false, false, false, false, false, false, false, false, false, false, false, false, false, false, false] rfl rfl (any_of HT_.out (by kernel_rfl)) (fun _ _ _ h => h) (Or.inl ⟨by rfl, ?_⟩) ?_ ?_
                      rotate_left
                      · intro w'
                        go_simp
                        with_reducible rfl
                      rotate_left
                      · simp only [Act.put, List.setIfInBounds_toArray, List.set_cons_zero, List.set_cons_succ, i64_w, i32_w]
                        rfl
                      refine pure_ (i := 1) (N := some 19) (v := ?_) (a' := ?_) #[true, true, false, false, false, false, false, false, false, false, false, false, false, false, false, false, false, false, false, false, false, false, false, false, false, false, false, false, false, false] rfl rfl (any_of HT_.out (by kernel_rfl)) (fun _ _ _ h => h) (Or.inl ⟨by rfl, ?_⟩) ?_ ?_
                      rotate_left
                      · intro w'
                        go_simp
                        with_reducible rfl
                      rotate_left
                      · simp only [Act.put, List.setIfInBounds_toArray, List.set_cons_zero, List.set_cons_succ, i64_w, i32_w]
                        rfl
                      refine pure_ (i := 2) (N := some 20) (v := ?_) (a' := ?_) #[true, true, true, false, false, false, false, false, false, false, false, false, false, false, false, false, false, false, false, false, false, false, false, false, false, false, false, false, false, false] rfl rfl (any_of HT_.out (by kernel_rfl)) (fun _ _ _ h => h) (Or.inl ⟨by rfl, ?_⟩) ?_ ?_
                      rotate_left
                      · intro w'
                        go_simp
                        with_reducible rfl
                      rotate_left
                      · simp only [Act.put, List.setIfInBounds_toArray, List.set_cons_zero, List.set_cons_succ, i64_w, i32_w]
                        rfl
                      refine pure_ (i := 4) (N := some 22) (v := ?_) (a' := ?_) #[true, true, true, false, true, false, false, false, false, false, false, false, false, false, false, false, false, false, false, false, false, false, false, false, false, false, false, false, false, false] rfl rfl (any_of HT_.out (by kernel_rfl)) (fun _ _ _ h => h) (Or.inl ⟨by rfl, ?_⟩) ?_ ?_
                      rotate_left
                      · intro w'
                        go_simp
                        with_reducible rfl
                      rotate_left
                      · simp only [Act.put, List.setIfInBounds_toArray, List.set_cons_zero, List.set_cons_succ, i64_w, i32_w]
                        rfl
                      refine pure_ (i := 5) (N := some 23) (v := ?_) (a' := ?_) #[true, true, true, false, true, true, false, false, false, false, false, false, false, false, false, false, false, false, false, false, false, false, false, false, false, false, false, false, false, false] rfl rfl (any_of HT_.out (by kernel_rfl)) (fun _ _ _ h => h) (Or.inl ⟨by rfl, ?_⟩) ?_ ?_
                      rotate_left
                      · intro w'
                        go_simp
                        with_reducible rfl
                      rotate_left
                      · simp only [Act.put, List.setIfInBounds_toArray, List.set_cons_zero, List.set_cons_succ, i64_w, i32_w]
                        rfl
                      refine pure_ (i := 6) (N := some 24) (v := ?_) (a' := ?_) #[true, true, true, false, true, true, true, false, false, false, false, false, false, false, false, false, false, false, false, false, false, false, false, false, false, false, false, false, false, false] rfl rfl (any_of HT_.out (by kernel_rfl)) (fun _ _ _ h => h) (Or.inl ⟨by rfl, ?_⟩) ?_ ?_
                      rotate_left
                      · intro w'
                        go_simp
                        with_reducible rfl
                      rotate_left
                      · simp only [Act.put, List.setIfInBounds_toArray, List.set_cons_zero, List.set_cons_succ, i64_w, i32_w]
                        rfl
                      refine take_ (i := 3) (N := some 21) (v := ?_) (a' := ?_) #[true, true, true, true, true, true, true, false, false, false, false, false, false, false, false, false, false, false, false, false, false, false, false, false, false, false, false, false, false, false] rfl rfl (take_ofW HT_.out HW_.out (by kernel_rfl)) (fun _ _ _ h => h) (Or.inl ⟨by rfl, ?_⟩) hHeld ?_ ?_
                      rotate_left
                      · rintro w' ⟨s0, s1, s2, s3, s4, s5⟩
                        go_simp
                        with_reducible rfl
                      rotate_left
                      · simp only [Act.put, List.setIfInBounds_toArray, List.set_cons_zero, List.set_cons_succ, i64_w, i32_w]
                        rfl
                      refine take_ (i := 7) (N := some 25) (v := ?_) (a' := ?_) #[true, true, true, true, true, true, true, true, false, false, false, false, false, false, false, false, false, false, false, false, false, false, false, false, false, false, false, false, false, false] rfl rfl (take_ofW HT_.out HW_.out (by kernel_rfl)) (fun _ _ _ h => h) (Or.inl ⟨by rfl, ?_⟩) hHeld ?_ ?_
                      rotate_left
                      · rintro w' ⟨s0, s1, s2, s3, s4, s5⟩
                        go_simp
                        with_reducible rfl
                      rotate_left
                      · simp only [Act.put, List.setIfInBounds_toArray, List.set_cons_zero, List.set_cons_succ, i64_w, i32_w]
                        rfl
                      refine pure_ (i := 8) (N := some 26) (v := ?_) (a' := ?_) #[true, true, true, true, true, true, true, true, true, false, false, false, false, false, false, false, false, false, false, false, false, false, false, false, false, false, false, false, false, false] rfl rfl (any_of HT_.out (by kernel_rfl)) (fun _ _ _ h => h) (Or.inl ⟨by rfl, ?_⟩) ?_ ?_
                      rotate_left
                      · intro w'
                        go_simp
                        with_reducible rfl
                      rotate_left
                      · simp only [Act.put, List.setIfInBounds_toArray, List.set_cons_zero, List.set_cons_succ, i64_w, i32_w]
                        rfl
                      refine pure_ (i := 9) (N := some 27) (v := ?_) (a' := ?_) #[true, true, true, true, true, true, true, true, true, true, false, false, false, false, false, false, false, false, false, false, false, false, false, false, false, false, false, false, false, false] rfl rfl (any_of HT_.out (by kernel_rfl)) (fun _ _ _ h => h) (Or.inl ⟨by rfl, ?_⟩) ?_ ?_
                      rotate_left
                      · intro w'
                        go_simp
                        with_reducible rfl
                      rotate_left
                      · simp only [Act.put, List.setIfInBounds_toArray, List.set_cons_zero, List.set_cons_succ, i64_w, i32_w]
                        rfl
                      refine pure_ (i := 10) (N := some 28) (v := ?_) (a' := ?_) #[true, true, true, true, true, true, true, true, true, true, true, false, false, false, false, false, false, false, false, false, false, false, false, false, false, false, false, false, false, false] rfl rfl (any_of HT_.out (by kernel_rfl)) (fun _ _ _ h => h) (Or.inl ⟨by rfl, ?_⟩) ?_ ?_
                      rotate_left
                      · intro w'
                        go_simp
                        with_reducible rfl
                      rotate_left
                      · simp only [Act.put, List.setIfInBounds_toArray, List.set_cons_zero, List.set_cons_succ, i64_w, i32_w]
                        rfl
                      refine pure_ (i := 11) (N := some 29) (v := ?_) (a' := ?_) #[true, true, true, true, true, true, true, true, true, true, true, true, false, false, false, false, false, false, false, false, false, false, false, false, false, false, false, false, false, false] rfl rfl (any_of HT_.out (by kernel_rfl)) (fun _ _ _ h => h) (Or.inl ⟨by rfl, ?_⟩) ?_ ?_
                      rotate_left
                      · intro w'
                        go_simp
                        with_reducible rfl
                      rotate_left
                      · simp only [Act.put, List.setIfInBounds_toArray, List.set_cons_zero, List.set_cons_succ, i64_w, i32_w]
                        rfl
                      refine pure_ (i := 12) (N := some 30) (v := ?_) (a' := ?_) #[true, true, true, true, true, true, true, true, true, true, true, true, true, false, false, false, false, false, false, false, false, false, false, false, false, false, false, false, false, false] rfl rfl (any_of HT_.out (by kernel_rfl)) (fun _ _ _ h => h) (Or.inl ⟨by rfl, ?_⟩) ?_ ?_
                      rotate_left
                      · intro w'
                        go_simp
                        with_reducible rfl
                      rotate_left
                      · simp only [Act.put, List.setIfInBounds_toArray, List.set_cons_zero, List.set_cons_succ, i64_w, i32_w]
                        rfl
                      refine pure_ (i := 14) (N := some 32) (v := ?_) (a' := ?_) #[true, true, true, true, true, true, true, true, true, true, true, true, true, false, true, false, false, false, false, false, false, false, false, false, false, false, false, false, false, false] rfl rfl (any_of HT_.out (by kernel_rfl)) (fun _ _ _ h => h) (Or.inl ⟨by rfl, ?_⟩) ?_ ?_
                      rotate_left
                      · intro w'
                        go_simp
                        with_reducible rfl
                      rotate_left
                      · simp only [Act.put, List.setIfInBounds_toArray, List.set_cons_zero, List.set_cons_succ, i64_w, i32_w]
                        rfl
                      refine pure_ (i := 15) (N := some 33) (v := ?_) (a' := ?_) #[true, true, true, true, true, true, true, true, true, true, true, true, true, false, true, true, false, false, false, false, false, false, false, false, false, false, false, false, false, false] rfl rfl (any_of HT_.out (by kernel_rfl)) (fun _ _ _ h => h) (Or.inl ⟨by rfl, ?_⟩) ?_ ?_
                      rotate_left
                      · intro w'
                        go_simp
                        with_reducible rfl
                      rotate_left
                      · simp only [Act.put, List.setIfInBounds_toArray, List.set_cons_zero, List.set_cons_succ, i64_w, i32_w]
                        rfl
                      refine pure_ (i := 16) (N := some 34) (v := ?_) (a' := ?_) #[true, true, true, true, true, true, true, true, true, true, true, true, true, false, true, true, true, false, false, false, false, false, false, false, false, false, false, false, false, false] rfl rfl (any_of HT_.out (by kernel_rfl)) (fun _ _ _ h => h) (Or.inl ⟨by rfl, ?_⟩) ?_ ?_
                      rotate_left
                      · intro w'
                        go_simp
                        with_reducible rfl
                      rotate_left
                      · simp only [Act.put, List.setIfInBounds_toArray, List.set_cons_zero, List.set_cons_succ, i64_w, i32_w]
                        rfl
                      refine pure_ (i := 19) (N := some 37) (v := ?_) (a' := ?_) #[true, true, true, true, true, true, true, true, true, true, true, true, true, false, true, true, true, false, false, true, false, false, false, false, false, false, false, false, false, false] rfl rfl (any_of HT_.out (by kernel_rfl)) (fun _ _ _ h => h) (Or.inl ⟨by rfl, ?_⟩) ?_ ?_
                      rotate_left
                      · intro w'
                        go_simp
                        with_reducible rfl
                      rotate_left
                      · simp only [Act.put, List.setIfInBounds_toArray, List.set_cons_zero, List.set_cons_succ, i64_w, i32_w]
                        rfl
                      refine pure_ (i := 20) (N := some 38) (v := ?_) (a' := ?_) #[true, true, true, true, true, true, true, true, true, true, true, true, true, false, true, true, true, false, false, true, true, false, false, false, false, false, false, false, false, false] rfl rfl (any_of HT_.out (by kernel_rfl)) (fun _ _ _ h => h) (Or.inl ⟨by rfl, ?_⟩) ?_ ?_
                      rotate_left
                      · intro w'
                        go_simp
                        with_reducible rfl
                      rotate_left
                      · simp only [Act.put, List.setIfInBounds_toArray, List.set_cons_zero, List.set_cons_succ, i64_w, i32_w]
                        rfl
                      refine pure_ (i := 21) (N := some 39) (v := ?_) (a' := ?_) #[true, true, true, true, true, true, true, true, true, true, true, true, true, false, true, true, true, false, false, true, true, true, false, false, false, false, false, false, false, false] rfl rfl (any_of HT_.out (by kernel_rfl)) (fun _ _ _ h => h) (Or.inl ⟨by rfl, ?_⟩) ?_ ?_
                      rotate_left
                      · intro w'
                        go_simp
                        with_reducible rfl
                      rotate_left
                      · simp only [Act.put, List.setIfInBounds_toArray, List.set_cons_zero, List.set_cons_succ, i64_w, i32_w]
                        rfl
                      refine pure_ (i := 24) (N := some 42) (v := ?_) (a' := ?_) #[true, true, true, true, true, true, true, true, true, true, true, true, true, false, true, true, true, false, false, true, true, true, false, false, true, false, false, false, false, false] rfl rfl (any_of HT_.out (by kernel_rfl)) (fun _ _ _ h => h) (Or.inl ⟨by rfl, ?_⟩) ?_ ?_
                      rotate_left
                      · intro w'
                        go_simp
                        with_reducible rfl
                      rotate_left
                      · simp only [Act.put, List.setIfInBounds_toArray, List.set_cons_zero, List.set_cons_succ, i64_w, i32_w]
                        rfl
                      refine pure_ (i := 25) (N := some 43) (v := ?_) (a' := ?_) #[true, true, true, true, true, true, true, true, true, true, true, true, true, false, true, true, true, false, false, true, true, true, false, false, true, true, false, false, false, false] rfl rfl (any_of HT_.out (by kernel_rfl)) (fun _ _ _ h => h) (Or.inl ⟨by rfl, ?_⟩) ?_ ?_
                      rotate_left
                      · intro w'
                        go_simp
                        with_reducible rfl
                      rotate_left
                      · simp only [Act.put, List.setIfInBounds_toArray, List.set_cons_zero, List.set_cons_succ, i64_w, i32_w]
                        rfl
                      refine pure_ (i := 26) (N := some 44) (v := ?_) (a' := ?_) #[true, true, true, true, true, true, true, true, true, true, true, true, true, false, true, true, true, false, false, true, true, true, false, false, true, true, true, false, false, false] rfl rfl (any_of HT_.out (by kernel_rfl)) (fun _ _ _ h => h) (Or.inl ⟨by rfl, ?_⟩) ?_ ?_
                      rotate_left
                      · intro w'
                        go_simp
                        with_reducible rfl
                      rotate_left
                      · simp only [Act.put, List.setIfInBounds_toArray, List.set_cons_zero, List.set_cons_succ, i64_w, i32_w]
                        rfl
                      refine take_ (i := 13) (N := some 31) (v := ?_) (a' := ?_) #[true, true, true, true, true, true, true, true, true, true, true, true, true, true, true, true, true, false, false, true, true, true, false, false, true, true, true, false, false, false] rfl rfl (take_ofW HT_.out HW_.out (by kernel_rfl)) (fun _ _ _ h => h) (Or.inl ⟨by rfl, ?_⟩) hHeld ?_ ?_
                      rotate_left
                      · rintro w' ⟨s0, s1, s2, s3, s4, s5⟩
                        go_simp
                        with_reducible rfl
                      rotate_left
                      · simp only [Act.put, List.setIfInBounds_toArray, List.set_cons_zero, List.set_cons_succ, i64_w, i32_w]
                        rfl
                      refine take_ (i := 17) (N := some 35) (v := ?_) (a' := ?_) #[true, true, true, true, true, true, true, true, true, true, true, true, true, true, true, true, true, true, false, true, true, true, false, false, true, true, true, false, false, false] rfl rfl (take_ofW HT_.out HW_.out (by kernel_rfl)) (fun _ _ _ h => h) (Or.inl ⟨by rfl, ?_⟩) hHeld ?_ ?_
                      rotate_left
                      · rintro w' ⟨s0, s1, s2, s3, s4, s5⟩
                        go_simp
                        with_reducible rfl
                      rotate_left
                      · simp only [Act.put, List.setIfInBounds_toArray, List.set_cons_zero, List.set_cons_succ, i64_w, i32_w]
                        rfl
                      refine pure_ (i := 18) (N := some 36) (v := ?_) (a' := ?_) #[true, true, true, true, true, true, true, true, true, true, true, true, true, true, true, true, true, true, true, true, true, true, false, false, true, true, true, false, false, false] rfl rfl (any_of HT_.out (by kernel_rfl)) (fun _ _ _ h => h) (Or.inl ⟨by rfl, ?_⟩) ?_ ?_
                      rotate_left
                      · intro w'
                        go_simp
                        with_reducible rfl
                      rotate_left
                      · simp only [Act.put, List.setIfInBounds_toArray, List.set_cons_zero, List.set_cons_succ, i64_w, i32_w]
                        rfl
                      refine take_ (i := 22) (N := some 40) (v := ?_) (a' := ?_) #[true, true, true, true, true, true, true, true, true, true, true, true, true, true, true, true, true, true, true, true, true, true, true, false, true, true, true, false, false, false] rfl rfl (take_ofW HT_.out HW_.out (by kernel_rfl)) (fun _ _ _ h => h) (Or.inl ⟨by rfl, ?_⟩) hHeld ?_ ?_
                      rotate_left
                      · rintro w' ⟨s0, s1, s2, s3, s4, s5⟩
                        go_simp
                        with_reducible rfl
                      rotate_left
                      · simp only [Act.put, List.setIfInBounds_toArray, List.set_cons_zero, List.set_cons_succ, i64_w, i32_w]
                        rfl
                      refine pure_ (i := 23) (N := some 41) (v := ?_) (a' := ?_) #[true, true, true, true, true, true, true, true, true, true, true, true, true, true, true, true, true, true, true, true, true, true, true, true, true, true, true, false, false, false] rfl rfl (any_of HT_.out (by kernel_rfl)) (fun _ _ _ h => h) (Or.inl ⟨by rfl, ?_⟩) ?_ ?_
                      rotate_left
                      · intro w'
                        go_simp
                        with_reducible rfl
                      rotate_left
                      · simp only [Act.put, List.setIfInBounds_toArray, List.set_cons_zero, List.set_cons_succ, i64_w, i32_w]
                        rfl
                      refine take_ (i := 27) (N := some 45) (v := ?_) (a' := ?_) #[true, true, true, true, true, true, true, true, true, true, true, true, true, true, true, true, true, true, true, true, true, true, true, true, true, true, true, true, false, false] rfl rfl (take_ofW HT_.out HW_.out (by kernel_rfl)) (fun _ _ _ h => h) (Or.inl ⟨by rfl, ?_⟩) hHeld ?_ ?_
                      rotate_left
                      · rintro w' ⟨s0, s1, s2, s3, s4, s5⟩
                        go_simp
                        with_reducible rfl
                      rotate_left
                      · simp only [Act.put, List.setIfInBounds_toArray, List.set_cons_zero, List.set_cons_succ, i64_w, i32_w]
                        rfl
                      refine pure_ (i := 28) (N := some 46) (v := ?_) (a' := ?_) #[true, true, true, true, true, true, true, true, true, true, true, true, true, true, true, true, true, true, true, true, true, true, true, true, true, true, true, true, true, false] rfl rfl (any_of HT_.out (by kernel_rfl)) (fun _ _ _ h => h) (Or.inl ⟨by rfl, ?_⟩) ?_ ?_
                      rotate_left
                      · intro w'
                        go_simp
                        with_reducible rfl
                      rotate_left
                      · simp only [Act.put, List.setIfInBounds_toArray, List.set_cons_zero, List.set_cons_succ, i64_w, i32_w]
                        rfl
                      refine pure_ (i := 29) (N := some 47) (v := ?_) (a' := ?_) #[true, true, true, true, true, true, true, true, true, true, true, true, true, true, true, true, true, true, true, true, true, true, true, true, true, true, true, true, true, true] rfl rfl (any_of HT_.out (by kernel_rfl)) (fun _ _ _ h => h) (Or.inl ⟨by rfl, ?_⟩) ?_ ?_
                      rotate_left
                      · intro w'
                        go_simp
                        with_reducible rfl
                      rotate_left
                      · simp only [Act.put, List.setIfInBounds_toArray, List.set_cons_zero, List.set_cons_succ, i64_w, i32_w]
                        rfl
                      refine done_ (done_of HT_.out (by kernel_rfl)) ?_
                      try go_wp2
                      have n0_ := Aside0.mk (Kd.R_drew HO_10.out)
                      have n1_ := Aside0.mk (below_drew1 HB.out)
                      clear HO_10
                      clear HB
                      have HO_10 := n0_
                      have HB := n1_
                      clear n0_ n1_
                      have p276 : 0 ≤ (x11_1 : Int) := of_decide_eq_true (by first | (with_reducible assumption) | assumption)
                      have q276 : x11_1 < (l2.length : Int) := of_decide_eq_true (by first | (with_reducible assumption) | assumption)
                      obtain ⟨ad276, e276, hx276_0⟩ := Kd.at_int HR2.out x11_1 p276 q276
                      have hw276_0 := hx276_0
                      obtain rfl : ad270 = ad276 := (by injection e276)
                      replace hx276_0 := (HB.out.cell (World.block_lt_of_cell? w _ hx276_0)).trans hx276_0
                      replace p276 := eq_true p276
                      replace q276 := eq_true q276
                      have p277 : 0 ≤ (x11_1 : Int) := of_decide_eq_true (by first | (with_reducible assumption) | assumption)
                      have q277 : x11_1 < (l1.length : Int) := of_decide_eq_true (by first | (with_reducible assumption) | assumption)
                      obtain ⟨ad277, e277, hx277_0⟩ := Kd.at_int HR1.out x11_1 p277 q277
                      have hw277_0 := hx277_0
                      obtain rfl : ad273 = ad277 := (by injection e277)
                      replace hx277_0 := (HB.out.cell (World.block_lt_of_cell? w _ hx277_0)).trans hx277_0
                      replace p277 := eq_true p277
                      replace q277 := eq_true q277
                      have p278 : 0 ≤ (x11_1 : Int) := of_decide_eq_true (by first | (with_reducible assumption) | assumption)
                      have q278 : x11_1 < (l3.length : Int) := of_decide_eq_true (by first | (with_reducible assumption) | assumption)
                      obtain ⟨ad278, e278, hx278_0⟩ := Kd.at_int HR3.out x11_1 p278 q278
                      have hw278_0 := hx278_0
                      obtain rfl : ad274 = ad278 := (by injection e278)
                      replace hx278_0 := (HB.out.cell (World.block_lt_of_cell? w _ hx278_0)).trans hx278_0
                      replace p278 := eq_true p278
                      replace q278 := eq_true q278
                      refine start_ (n := 18) (S := fun w' => w'.cell? (ad270.add (x11_1).toNat) = some (.int .i64 (rd l2 x11_1)) ∧ w'.cell? (ad273.add (x11_1).toNat) = some (.int .i64 (rd l1 x11_1)) ∧ w'.cell? (ad274.add (x11_1).toNat) = some (.int .i64 (rd l3 x11_1))) (ds := []) #[false, false, false, false, false, false, false, false, false, false, false, false, false, false, false, false, false, false] (by kernel_rfl) rfl rfl ⟨((HB.out.cell (World.block_lt_of_cell? w _ hw276_0)).trans hw276_0), ((HB.out.cell (World.block_lt_of_cell? w _ hw277_0)).trans hw277_0), ((HB.out.cell (World.block_lt_of_cell? w _ hw278_0)).trans hw278_0)⟩ (fun hHeld => ?_); refine with_tabW slabvaultref13_where.tab7 slabvaultref13_where.bits7 (fun HT_ HW_ => ?_)
                      generalize w15.drew = w16 at HO_10 HB hx276_0 hx277_0 hx278_0 hHeld ⊢
                      refine pure_ (i := 0) (N := some 48) (v := ?_) (a' := ?_) #[true, false, false, false, false, false, false, false, false, false, false, false, false, false, false, false, false, false] rfl rfl (any_of HT_.out (by kernel_rfl)) (fun _ _ _ h => h) (Or.inl ⟨by rfl, ?_⟩) ?_ ?_
                      rotate_left
                      · intro w'
                        go_simp
                        with_reducible rfl
                      rotate_left
                      · simp only [Act.put, List.setIfInBounds_toArray, List.set_cons_zero, List.set_cons_succ, i64_w, i32_w]
                        rfl
                      refine pure_ (i := 1) (N := some 49) (v := ?_) (a' := ?_) #[true, true, false, false, false, false, false, false, false, false, false, false, false, false, false, false, false, false] rfl rfl (any_of HT_.out (by kernel_rfl)) (fun _ _ _ h => h) (Or.inl ⟨by rfl, ?_⟩) ?_ ?_
                      rotate_left
                      · intro w'
                        go_simp
                        with_reducible rfl
                      rotate_left
                      · simp only [Act.put, List.setIfInBounds_toArray, List.set_cons_zero, List.set_cons_succ, i64_w, i32_w]
                        rfl
                      refine pure_ (i := 2) (N := some 50) (v := ?_) (a' := ?_) #[true, true, true, false, false, false, false, false, false, false, false, false, false, false, false, false, false, false] rfl rfl (any_of HT_.out (by kernel_rfl)) (fun _ _ _ h => h) (Or.inl ⟨by rfl, ?_⟩) ?_ ?_
                      rotate_left
                      · intro w'
                        go_simp
                        with_reducible rfl
                      rotate_left
                      · simp only [Act.put, List.setIfInBounds_toArray, List.set_cons_zero, List.set_cons_succ, i64_w, i32_w]
                        rfl
                      refine pure_ (i := 3) (N := some 51) (v := ?_) (a' := ?_) #[true, true, true, true, false, false, false, false, false, false, false, false, false, false, false, false, false, false] rfl rfl (any_of HT_.out (by kernel_rfl)) (fun _ _ _ h => h) (Or.inl ⟨by rfl, ?_⟩) ?_ ?_
                      rotate_left
                      · intro w'
                        go_simp
                        with_reducible rfl
                      rotate_left
                      · simp only [Act.put, List.setIfInBounds_toArray, List.set_cons_zero, List.set_cons_succ, i64_w, i32_w]
                        rfl
                      refine pure_ (i := 5) (N := some 53) (v := ?_) (a' := ?_) #[true, true, true, true, false, true, false, false, false, false, false, false, false, false, false, false, false, false] rfl rfl (any_of HT_.out (by kernel_rfl)) (fun _ _ _ h => h) (Or.inl ⟨by rfl, ?_⟩) ?_ ?_
                      rotate_left
                      · intro w'
                        go_simp
                        with_reducible rfl
                      rotate_left
                      · simp only [Act.put, List.setIfInBounds_toArray, List.set_cons_zero, List.set_cons_succ, i64_w, i32_w]
                        rfl
                      refine pure_ (i := 6) (N := some 54) (v := ?_) (a' := ?_) #[true, true, true, true, false, true, true, false, false, false, false, false, false, false, false, false, false, false] rfl rfl (any_of HT_.out (by kernel_rfl)) (fun _ _ _ h => h) (Or.inl ⟨by rfl, ?_⟩) ?_ ?_
                      rotate_left
                      · intro w'
                        go_simp
                        with_reducible rfl
                      rotate_left
                      · simp only [Act.put, List.setIfInBounds_toArray, List.set_cons_zero, List.set_cons_succ, i64_w, i32_w]
                        rfl
                      refine pure_ (i := 7) (N := some 55) (v := ?_) (a' := ?_) #[true, true, true, true, false, true, true, true, false, false, false, false, false, false, false, false, false, false] rfl rfl (any_of HT_.out (by kernel_rfl)) (fun _ _ _ h => h) (Or.inl ⟨by rfl, ?_⟩) ?_ ?_
                      rotate_left
                      · intro w'
                        go_simp
                        with_reducible rfl
                      rotate_left
                      · simp only [Act.put, List.setIfInBounds_toArray, List.set_cons_zero, List.set_cons_succ, i64_w, i32_w]
                        rfl
                      refine pure_ (i := 10) (N := some 58) (v := ?_) (a' := ?_) #[true, true, true, true, false, true, true, true, false, false, true, false, false, false, false, false, false, false] rfl rfl (any_of HT_.out (by kernel_rfl)) (fun _ _ _ h => h) (Or.inl ⟨by rfl, ?_⟩) ?_ ?_
                      rotate_left
                      · intro w'
                        go_simp
                        with_reducible rfl
                      rotate_left
                      · simp only [Act.put, List.setIfInBounds_toArray, List.set_cons_zero, List.set_cons_succ, i64_w, i32_w]
                        rfl
                      refine pure_ (i := 11) (N := some 59) (v := ?_) (a' := ?_) #[true, true, true, true, false, true, true, true, false, false, true, true, false, false, false, false, false, false] rfl rfl (any_of HT_.out (by kernel_rfl)) (fun _ _ _ h => h) (Or.inl ⟨by rfl, ?_⟩) ?_ ?_
                      rotate_left
                      · intro w'
                        go_simp
                        with_reducible rfl
                      rotate_left
                      · simp only [Act.put, List.setIfInBounds_toArray, List.set_cons_zero, List.set_cons_succ, i64_w, i32_w]
                        rfl
                      refine pure_ (i := 12) (N := some 60) (v := ?_) (a' := ?_) #[true, true, true, true, false, true, true, true, false, false, true, true, true, false, false, false, false, false] rfl rfl (any_of HT_.out (by kernel_rfl)) (fun _ _ _ h => h) (Or.inl ⟨by rfl, ?_⟩) ?_ ?_
                      rotate_left
                      · intro w'
                        go_simp
                        with_reducible rfl
                      rotate_left
                      · simp only [Act.put, List.setIfInBounds_toArray, List.set_cons_zero, List.set_cons_succ, i64_w, i32_w]
                        rfl
                      refine take_ (i := 4) (N := some 52) (v := ?_) (a' := ?_) #[true, true, true, true, true, true, true, true, false, false, true, true, true, false, false, false, false, false] rfl rfl (take_ofW HT_.out HW_.out (by kernel_rfl)) (fun _ _ _ h => h) (Or.inl ⟨by rfl, ?_⟩) hHeld ?_ ?_
                      rotate_left
                      · rintro w' ⟨s0, s1, s2⟩
                        go_simp
                        with_reducible rfl
                      rotate_left
                      · simp only [Act.put, List.setIfInBounds_toArray, List.set_cons_zero, List.set_cons_succ, i64_w, i32_w]
                        rfl
                      refine take_ (i := 8) (N := some 56) (v := ?_) (a' := ?_) #[true, true, true, true, true, true, true, true, true, false, true, true, true, false, false, false, false, false] rfl rfl (take_ofW HT_.out HW_.out (by kernel_rfl)) (fun _ _ _ h => h) (Or.inl ⟨by rfl, ?_⟩) hHeld ?_ ?_
                      rotate_left
                      · rintro w' ⟨s0, s1, s2⟩
                        go_simp
                        with_reducible rfl
                      rotate_left
                      · simp only [Act.put, List.setIfInBounds_toArray, List.set_cons_zero, List.set_cons_succ, i64_w, i32_w]
                        rfl
                      refine pure_ (i := 9) (N := some 57) (v := ?_) (a' := ?_) #[true, true, true, true, true, true, true, true, true, true, true, true, true, false, false, false, false, false] rfl rfl (any_of HT_.out (by kernel_rfl)) (fun _ _ _ h => h) (Or.inl ⟨by rfl, ?_⟩) ?_ ?_
                      rotate_left
                      · intro w'
                        go_simp
                        with_reducible rfl
                      rotate_left
                      · simp only [Act.put, List.setIfInBounds_toArray, List.set_cons_zero, List.set_cons_succ, i64_w, i32_w]
                        rfl
                      refine take_ (i := 13) (N := some 61) (v := ?_) (a' := ?_) #[true, true, true, true, true, true, true, true, true, true, true, true, true, true, false, false, false, false] rfl rfl (take_ofW HT_.out HW_.out (by kernel_rfl)) (fun _ _ _ h => h) (Or.inl ⟨by rfl, ?_⟩) hHeld ?_ ?_
                      rotate_left
                      · rintro w' ⟨s0, s1, s2⟩
                        go_simp
                        with_reducible rfl
                      rotate_left
                      · simp only [Act.put, List.setIfInBounds_toArray, List.set_cons_zero, List.set_cons_succ, i64_w, i32_w]
                        rfl
                      refine pure_ (i := 14) (N := some 62) (v := ?_) (a' := ?_) #[true, true, true, true, true, true, true, true, true, true, true, true, true, true, true, false, false, false] rfl rfl (any_of HT_.out (by kernel_rfl)) (fun _ _ _ h => h) (Or.inl ⟨by rfl, ?_⟩) ?_ ?_
                      rotate_left
                      · intro w'
                        go_simp
                        with_reducible rfl
                      rotate_left
                      · simp only [Act.put, List.setIfInBounds_toArray, List.set_cons_zero, List.set_cons_succ, i64_w, i32_w]
                        rfl
                      refine one_ (i := 15) (N := some 63) #[true, true, true, true, true, true, true, true, true, true, true, true, true, true, true, true, false, false] rfl rfl (one_of HT_.out (by kernel_rfl)) (by decide) (fun K hK => ?_)
                      refine value_ (w1 := ?_) (v := ?_) (by rfl) rfl ?_ ?_
                      rotate_left 2
                      · go_simp
                        constructor
                        · rfl
                        · rfl
                      refine hK.out _ _ ⟨(World.cell?_alloc_lt _ _ _ (World.block_lt_of_cell? _ _ (((HB.out.cell (World.block_lt_of_cell? w _ hw276_0)).trans hw276_0)))).trans (((HB.out.cell (World.block_lt_of_cell? w _ hw276_0)).trans hw276_0)), (World.cell?_alloc_lt _ _ _ (World.block_lt_of_cell? _ _ (((HB.out.cell (World.block_lt_of_cell? w _ hw277_0)).trans hw277_0)))).trans (((HB.out.cell (World.block_lt_of_cell? w _ hw277_0)).trans hw277_0)), (World.cell?_alloc_lt _ _ _ (World.block_lt_of_cell? _ _ (((HB.out.cell (World.block_lt_of_cell? w _ hw278_0)).trans hw278_0)))).trans (((HB.out.cell (World.block_lt_of_cell? w _ hw278_0)).trans hw278_0))⟩ (fun hHeld => ?_)
                      clear hK K
                      refine norm_ (a' := ?_) ?_ ?_
                      rotate_left
                      · show Act.put _ (some 63) _ = _
                        simp only [Act.put, List.setIfInBounds_toArray, List.set_cons_zero, List.set_cons_succ, i64_w, i32_w]
                        rfl
                      refine one_ (i := 16) (N := some 64) #[true, true, true, true, true, true, true, true, true, true, true, true, true, true, true, true, true, false] rfl rfl (one_of HT_.out (by kernel_rfl)) (by decide) (fun K hK => ?_)
                      refine Kd.R_append_step (Kd.int .i64) (w0 := w) w.heap.size (by rfl) (.tmp 48) (.tmp 63) 22 3 (.int .i64 0) 8 rfl Try.underlying22 info3 rfl (by decide) (by omega) u10 x10_1 (wrap64 ((wrap64 ((rd l2 x11_1) * (rd l1 x11_1))) + (rd l3 x11_1))) [.int .i64 (wrap64 ((wrap64 ((rd l2 x11_1) * (rd l1 x11_1))) + (rd l3 x11_1)))] (fun _ => True) (fun _ => False) rfl rfl ?aP (fun _ hk => hk.elim) ?aF ?aO ?aB ?aS ?aL ?_
                      (case aP => exact rfl)
                      (case aB => exact (by repeat (first | (with_reducible first | exact HB.out | apply below_alloc | apply pw_below_drewN | apply below_drew1) | exact HB.out)))
                      (case aF => exact (fun _ _ => trivial))
                      (case aO => exact (by (with_reducible repeat (first | apply Kd.R_alloc | apply Kd.R_drewN | apply Kd.R_drew)); exact HO_10.out))
                      (case aS => exact (below_size (by repeat (first | (with_reducible first | exact HB.out | apply below_alloc | apply pw_below_drewN | apply below_drew1) | exact HB.out))))
                      (case aL => have := LMc14.out; omega)
                      intro v280 w17 ho hb hg hat
                      rw [← Ny279.out] at ho
                      have n0_ := Aside0.mk (hb)
                      have n1_ := Aside0.mk (ho)
                      clear HB
                      clear HO_10
                      have HB := n0_
                      have HO281 := n1_
                      clear n0_ n1_
                      clear ho hb hg hat
                      refine hK.out _ _ ⟨((HB.out.cell (World.block_lt_of_cell? w _ hw276_0)).trans hw276_0), ((HB.out.cell (World.block_lt_of_cell? w _ hw277_0)).trans hw277_0), ((HB.out.cell (World.block_lt_of_cell? w _ hw278_0)).trans hw278_0)⟩ (fun hHeld => ?_)
                      clear hK K
                      refine norm_ (a' := ?_) ?_ ?_
                      rotate_left
                      · show Act.put _ (some 64) _ = _
                        simp only [Act.put, List.setIfInBounds_toArray, List.set_cons_zero, List.set_cons_succ, i64_w, i32_w]
                        rfl
                      refine pure_ (i := 17) (N := some 10) (v := ?_) (a' := ?_) #[true, true, true, true, true, true, true, true, true, true, true, true, true, true, true, true, true, true] rfl rfl (any_of HT_.out (by kernel_rfl)) (fun _ _ _ h => h) (Or.inl ⟨by rfl, ?_⟩) ?_ ?_
                      rotate_left
                      · intro w'
                        go_simp
                        with_reducible rfl
                      rotate_left
                      · simp only [Act.put, List.setIfInBounds_toArray, List.set_cons_zero, List.set_cons_succ, i64_w, i32_w]
                        rfl
                      refine done_ (done_of HT_.out (by kernel_rfl)) ?_
                      try go_wp2
                      go_roundg k1
                      case measure => have := HK1.out; omega
                      case rel => exact ⟨(y279), (wrap64 (x11_1 + 1)), (by first | rfl | (simp; done) | (simp [*]; done)), H', ⟨by have := HK1.out; omega⟩, ⟨by (with_reducible repeat (first | apply Kd.R_alloc | apply Kd.R_drewN | apply Kd.R_drew)); exact HO281.out⟩, ⟨by repeat (first | (with_reducible first | exact HB.out | apply below_alloc | apply pw_below_drewN | apply below_drew1) | exact HB.out)⟩⟩
                    · rw [if_neg c14] at H
                      exact absurd H (by simp)
                · rw [if_neg c11] at H
                  exact absurd H (by simp)
              · rw [if_neg c10] at H
                exact absurd H (by simp)
          · rw [if_neg c7] at H
            exact absurd H (by simp)
        · rw [if_neg c6] at H
          exact absurd H (by simp)
      · rw [if_neg c5] at H
        have c5b0 : decide (x11_1 < (l0.length : Int)) = false := decide_eq_false c5
        clear c5
        simp only [Option.some.injEq, Prod.mk.injEq] at H
        obtain ⟨rfl, rfl⟩ := H
        go_wp2
        go_ret2
        exact ⟨_, by first | rfl | (simp [errW_none, errW_some] <;> rfl) | (simp [*, errW_none, errW_some] <;> rfl), by (with_reducible repeat (first | apply Kd.R_alloc | apply Kd.R_drewN | apply Kd.R_drew)); exact HO_10.out, by repeat (first | (with_reducible first | exact HB.out | apply below_alloc | apply pw_below_drewN | apply below_drew1) | exact HB.out)⟩
end Go.Proofs.Ytjbjofmcmjojlab.Wk
end
section
namespace Go.Proofs.Ytjbjofmcmjojlab.Wk
open Go.RowKit Go.Proofs.YtjbjofmcmjojlabW.PrintWords Go.Proofs.YtjbjofmcmjojlabW.PrintLast Go.Proofs.YtjbjofmcmjojlabW.PrintMore
attribute [local go_sem] max2_int min2_int max_two min_two max_three min_three max_four min_four
set_option linter.unusedVariables false
set_option linter.unusedSimpArgs false
def slabvaultref12_Place.l0 : Nat → List Int → List Int → Int → Int → Option (Int)
  | 0, _, _, _, _ => none
  | k + 1, x0, x1, x5, x6 => if x6 < (x0.length : Int) then (if 0 ≤ x6 then (if x6 < (x1.length : Int) then (slabvaultref12_Place.l0 k x0 x1 (wrap64 ((wrap64 (x5 * (rd x0 x6))) + (rd x1 x6))) (wrap64 (x6 + 1))) else (none)) else (none)) else (some x5)
def slabvaultref12_Place.f (k : Nat) (l0 : List Int) (l1 : List Int) : Option (Int) := slabvaultref12_Place.l0 k l0 l1 0 0
set_option maxHeartbeats 8000000 in
set_option maxRecDepth 100000 in
theorem slabvaultref12_Place.calls (k : Nat) (A0 : Option Addr) (c0 : Nat) (l0 : List Int) (A1 : Option Addr) (c1 : Nat) (l1 : List Int) (r : Int) (w : World) (hr0 : Kd.C (Kd.int .i64) w A0 l0.length l0) (hc0 : l0.length ≤ c0) (hr1 : Kd.C (Kd.int .i64) w A1 l1.length l1) (hc1 : l1.length ≤ c1) (h : slabvaultref12_Place.f k l0 l1 = some r) :
    Calls Try.prog 47 #[.slice A0 l0.length c0, .slice A1 l1.length c1] w fun e w' => e = .returned (.int .i64 r) ∧ Drawn0 w w' := by
  have HR0 := Aside0.mk hr0
  have HC0 := Aside0.mk hc0
  clear hr0 hc0
  have HR1 := Aside0.mk hr1
  have HC1 := Aside0.mk hc1
  clear hr1 hc1
  have H : (slabvaultref12_Place.l0 k l0 l1 0 0) = some r := h
  clear h
  have H' := Aside0.mk H
  clear H
  go_enter Try.func47, Try.ntmps47
  go_wp2
  repeat (go_quiet (fail); try go_wp2)
  go_loopg [5, 6] k (fun kq v5 v6 w' => ∃ (x5_1 : Int) (x6_1 : Int), v5 = .int .i64 x5_1 ∧ v6 = .int .i64 x6_1 ∧ Aside0 (slabvaultref12_Place.l0 kq l0 l1 x5_1 x6_1 = some r) ∧ Aside0 (kq ≤ k) ∧ Drawn0 w w')
  case atStart => exact ⟨(0), (0), (by first | rfl | (simp; done) | (simp [*]; done)), (by first | rfl | (simp; done) | (simp [*]; done)), H', ⟨Nat.le_refl _⟩, by repeat (first | exact Drawn0.refl _ | apply Drawn0.step)⟩
  case round =>
    clear H'
    try clear c1
    try clear p2
    obtain ⟨x5_1, x6_1, rfl, rfl, HA, HK1, ⟨m1, rfl⟩⟩ := hrel
    cases gk with
    | zero => exact absurd HA.out (by simp [slabvaultref12_Place.l0])
    | succ k1 =>
      have H := HA.out
      clear HA
      simp only [slabvaultref12_Place.l0] at H
      by_cases c3 : x6_1 < (l0.length : Int)
      · rw [if_pos c3] at H
        have c3b0 : decide (x6_1 < (l0.length : Int)) = true := decide_eq_true c3
        clear c3
        by_cases c4 : 0 ≤ x6_1
        · rw [if_pos c4] at H
          have c4b0 : decide (0 ≤ x6_1) = true := decide_eq_true c4
          clear c4
          by_cases c5 : x6_1 < (l1.length : Int)
          · rw [if_pos c5] at H
            have c5b0 : decide (x6_1 < (l1.length : Int)) = true := decide_eq_true c5
            clear c5
            have H' := Aside0.mk H
            clear H
            have p282 : 0 ≤ (x6_1 : Int) := of_decide_eq_true (by first | (with_reducible assumption) | assumption)
            have q282 : x6_1 < (l0.length : Int) := of_decide_eq_true (by first | (with_reducible assumption) | assumption)
            obtain ⟨ad282, e282, hx282_0⟩ := Kd.at_int HR0.out x6_1 p282 q282
            cases e282
            replace p282 := eq_true p282
            replace q282 := eq_true q282
            have p283 : 0 ≤ (x6_1 : Int) := of_decide_eq_true (by first | (with_reducible assumption) | assumption)
            have q283 : x6_1 < (l1.length : Int) := of_decide_eq_true (by first | (with_reducible assumption) | assumption)
            obtain ⟨ad283, e283, hx283_0⟩ := Kd.at_int HR1.out x6_1 p283 q283
            cases e283
            replace p283 := eq_true p283
            replace q283 := eq_true q283
            go_wp2
            repeat (go_quiet (fail); try go_wp2)
            go_roundg k1
            case measure => have := HK1.out; omega
            case rel => exact ⟨(wrap64 ((wrap64 (x5_1 * (rd l0 x6_1))) + (rd l1 x6_1))), (wrap64 (x6_1 + 1)), (by first | rfl | (simp; done) | (simp [*]; done)), (by first | rfl | (simp; done) | (simp [*]; done)), H', ⟨by have := HK1.out; omega⟩, by repeat (first | exact Drawn0.refl _ | apply Drawn0.step)⟩
          · rw [if_neg c5] at H
            exact absurd H (by simp)
        · rw [if_neg c4] at H
          exact absurd H (by simp)
      · rw [if_neg c3] at H
        have c3b0 : decide (x6_1 < (l0.length : Int)) = false := decide_eq_false c3
        clear c3
        obtain rfl := Option.some.inj H
        go_wp2
        repeat (go_quiet (fail); try go_wp2)
        go_ret
        exact ⟨by first | rfl | (simp; done) | (simp [*]; done), by repeat (first | exact Drawn0.refl _ | apply Drawn0.step)⟩
end Go.Proofs.Ytjbjofmcmjojlab.Wk
end
section
namespace Go.Proofs.Ytjbjofmcmjojlab.Wk
open Go.RowKit Go.Proofs.YtjbjofmcmjojlabW.PrintWords Go.Proofs.YtjbjofmcmjojlabW.PrintLast Go.Proofs.YtjbjofmcmjojlabW.PrintMore
attribute [local go_sem] max2_int min2_int max_two min_two max_three min_three max_four min_four
set_option linter.unusedVariables false
set_option linter.unusedSimpArgs false
mutual
def slabvaultref13_Paste.l0 : Nat → Int → List Int → List Int → List Int → List Int → List Int → List (List Int) → Int → Option (List Int × Int)
  | 0, _, _, _, _, _, _, _, _ => none
  | k + 1, x1, x2, x3, x4, x5, x15, x16, x17 => if x17 < (x16.length : Int) then (if 0 ≤ x17 then ((slabvaultref13_where.f k x2 x3 x4 (rd_L1 x16 x17)).bind fun bt312 => (if bt312.2 = true then ((slabvaultref12_Place.f k x2 bt312.1).bind fun t316 => (slabvaultref13_Paste.l1 k x1 x2 x3 x4 x5 x15 x16 x17 (wrap64 (t316 * x1)) 0)) else (slabvaultref13_Paste.l0 k x1 x2 x3 x4 x5 x15 x16 (wrap64 (x17 + 1))))) else (none)) else (some (x15, 0))
def slabvaultref13_Paste.l1 : Nat → Int → List Int → List Int → List Int → List Int → List Int → List (List Int) → Int → Int → Int → Option (List Int × Int)
  | 0, _, _, _, _, _, _, _, _, _, _ => none
  | k + 1, x1, x2, x3, x4, x5, x15, x16, x17, x20, x21 => if x21 < x1 then (if 0 ≤ (wrap64 ((wrap64 (x17 * x1)) + x21)) then (if (wrap64 ((wrap64 (x17 * x1)) + x21)) < (x5.length : Int) then (if 0 ≤ (wrap64 (x20 + x21)) then (if (wrap64 (x20 + x21)) < (x15.length : Int) then (slabvaultref13_Paste.l1 k x1 x2 x3 x4 x5 (x15.set ((wrap64 (x20 + x21)) : Int).toNat (rd x5 (wrap64 ((wrap64 (x17 * x1)) + x21)))) x16 x17 x20 (wrap64 (x21 + 1))) else (none)) else (none)) else (none)) else (none)) else (slabvaultref13_Paste.l0 k x1 x2 x3 x4 x5 x15 x16 (wrap64 (x17 + 1)))
end
def slabvaultref13_Paste.f (k : Nat) (l0 : List Int) (a1 : Int) (l2 : List Int) (l3 : List Int) (l4 : List Int) (l5 : List Int) : Option (List Int × Int) := (slabvaultref13_bytes.f k l0 a1 l2 l3 l4 l5 true).bind fun t301 => (if t301 = 0 then ((some (([] : List Int) : List Int)).bind fun y302 => (if y302.length + l0.length < 140737488355328 then ((slabvaultref13_tuples.f k l3).bind fun t308 => (slabvaultref13_Paste.l0 k a1 l2 l3 l4 l5 (y302 ++ l0) t308 0)) else (none))) else (some (([] : List Int), t301)))
set_option maxHeartbeats 8000000 in
set_option maxRecDepth 100000 in
theorem slabvaultref13_Paste.calls (k : Nat) (A0 : Option Addr) (c0 : Nat) (l0 : List Int) (a1 : Int) (A2 : Option Addr) (c2 : Nat) (l2 : List Int) (A3 : Option Addr) (c3 : Nat) (l3 : List Int) (A4 : Option Addr) (c4 : Nat) (l4 : List Int) (A5 : Option Addr) (c5 : Nat) (l5 : List Int) (r1 : List Int) (r2 : Int) (w : World) (hr0 : Kd.C (Kd.int .u8) w A0 l0.length l0) (hc0 : l0.length ≤ c0) (hr2 : Kd.C (Kd.int .i64) w A2 l2.length l2) (hc2 : l2.length ≤ c2) (hr3 : Kd.C (Kd.int .i64) w A3 l3.length l3) (hc3 : l3.length ≤ c3) (hr4 : Kd.C (Kd.int .i64) w A4 l4.length l4) (hc4 : l4.length ≤ c4) (hr5 : Kd.C (Kd.int .u8) w A5 l5.length l5) (hc5 : l5.length ≤ c5) (h : slabvaultref13_Paste.f k l0 a1 l2 l3 l4 l5 = some (r1, r2)) :
    Calls Try.prog 32 #[.slice A0 l0.length c0, .int .i64 a1, .slice A2 l2.length c2, .slice A3 l3.length c3, .slice A4 l4.length c4, .slice A5 l5.length c5] w fun e w' => ∃ v0_ : Value, e = .returned (.tuple #[v0_, .int .i64 r2]) ∧ Kd.R (Kd.int .u8) 5 w' w.heap.size (fun _ => True) v0_ r1 ∧ Below w.heap.size w w' := by
  have HR0 := Aside0.mk hr0
  have HC0 := Aside0.mk hc0
  clear hr0 hc0
  have HR2 := Aside0.mk hr2
  have HC2 := Aside0.mk hc2
  clear hr2 hc2
  have HR3 := Aside0.mk hr3
  have HC3 := Aside0.mk hc3
  clear hr3 hc3
  have HR4 := Aside0.mk hr4
  have HC4 := Aside0.mk hc4
  clear hr4 hc4
  have HR5 := Aside0.mk hr5
  have HC5 := Aside0.mk hc5
  clear hr5 hc5
  have HB := Aside0.mk (Below.refl w.heap.size w)
  have H : ((slabvaultref13_bytes.f k l0 a1 l2 l3 l4 l5 true).bind fun t301 => (if t301 = 0 then ((some (([] : List Int) : List Int)).bind fun y302 => (if y302.length + l0.length < 140737488355328 then ((slabvaultref13_tuples.f k l3).bind fun t308 => (slabvaultref13_Paste.l0 k a1 l2 l3 l4 l5 (y302 ++ l0) t308 0)) else (none))) else (some (([] : List Int), t301)))) = some (r1, r2) := h
  clear h
  replace H := Option.bind_eq_some_iff.mp H
  obtain ⟨t301, A70, H⟩ := H
  replace H : (if t301 = 0 then ((some (([] : List Int) : List Int)).bind fun y302 => (if y302.length + l0.length < 140737488355328 then ((slabvaultref13_tuples.f k l3).bind fun t308 => (slabvaultref13_Paste.l0 k a1 l2 l3 l4 l5 (y302 ++ l0) t308 0)) else (none))) else (some (([] : List Int), t301))) = some (r1, r2) := H
  have A7 := Aside0.mk A70
  clear A70
  by_cases c8 : t301 = 0
  · rw [if_pos c8] at H
    have c8b0 : (t301 == 0) = true := beq_iff_eq.mpr c8
    have c8b1 : (t301 != 0) = false := bne_eq_false_iff_eq.mpr c8
    clear c8
    obtain ⟨y302, hy302⟩ : ∃ y_ : List Int, y_ = (([] : List Int)) := ⟨_, rfl⟩
    replace H : (if y302.length + l0.length < 140737488355328 then ((slabvaultref13_tuples.f k l3).bind fun t308 => (slabvaultref13_Paste.l0 k a1 l2 l3 l4 l5 (y302 ++ l0) t308 0)) else (none)) = some (r1, r2) := by first | (rw [hy302]; with_reducible exact H) | (have H2_ := (Option.bind_some _ _).symm.trans H; rw [hy302]; with_reducible exact H2_) | (have H2_ := (Option.bind_some _ _).symm.trans H; with_reducible exact H2_) | with_reducible exact H | (rw [hy302]; exact H) | exact H
    have Ny302 := Aside0.mk hy302
    clear hy302
    by_cases c9 : y302.length + l0.length < 140737488355328
    · rw [if_pos c9] at H
      have LMc9 := Aside0.mk c9
      clear c9
      obtain ⟨y305, hy305⟩ : ∃ y_ : List Int, y_ = (y302 ++ l0) := ⟨_, rfl⟩
      replace H : ((slabvaultref13_tuples.f k l3).bind fun t308 => (slabvaultref13_Paste.l0 k a1 l2 l3 l4 l5 y305 t308 0)) = some (r1, r2) := by first | (rw [hy305]; with_reducible exact H) | (have H2_ := (Option.bind_some _ _).symm.trans H; rw [hy305]; with_reducible exact H2_) | (have H2_ := (Option.bind_some _ _).symm.trans H; with_reducible exact H2_) | with_reducible exact H | (rw [hy305]; exact H) | exact H
      have Ny305 := Aside0.mk hy305
      clear hy305
      replace H := Option.bind_eq_some_iff.mp H
      obtain ⟨t308, A100, H⟩ := H
      replace H : (slabvaultref13_Paste.l0 k a1 l2 l3 l4 l5 y305 t308 0) = some (r1, r2) := H
      have A10 := Aside0.mk A100
      clear A100
      have H' := Aside0.mk H
      clear H
      go_enter Try.func32, Try.ntmps32
      go_wp2_with (first | ((with_reducible refine gate_callee (f := 44) rfl ?_); refine goesL_ (some 28) rfl rfl Try.func44 (by kernel_rfl) rfl #[.slice A0 l0.length c0, .int .i64 a1, .slice A2 l2.length c2, .slice A3 l3.length c3, .slice A4 l4.length c4, .slice A5 l5.length c5, .bool true] rfl (by (try simp only [List.map_toArray, List.map_cons, List.map_nil]); first | done | rfl | (simp only [List.length_drop, List.length_take]; rfl)) ?_; (with_reducible refine (slabvaultref13_bytes.calls k _ _ l0 a1 _ _ l2 _ _ l3 _ _ l4 _ _ l5 true t301 _ ?side1 ?side2 ?side3 ?side4 ?side5 ?side6 ?side7 ?side8 ?side9 ?side10 A7.out).mono ?_); (case side1 => repeat (first | exact HR0.out | (with_reducible refine Kd.C_alloc ?_ _) | (with_reducible refine Kd.C_drewN ?_ _) | (with_reducible refine Kd.C_drew ?_))); (case side2 => exact HC0.out); (case side3 => repeat (first | exact HR2.out | (with_reducible refine Kd.C_alloc ?_ _) | (with_reducible refine Kd.C_drewN ?_ _) | (with_reducible refine Kd.C_drew ?_))); (case side4 => exact HC2.out); (case side5 => repeat (first | exact HR3.out | (with_reducible refine Kd.C_alloc ?_ _) | (with_reducible refine Kd.C_drewN ?_ _) | (with_reducible refine Kd.C_drew ?_))); (case side6 => exact HC3.out); (case side7 => repeat (first | exact HR4.out | (with_reducible refine Kd.C_alloc ?_ _) | (with_reducible refine Kd.C_drewN ?_ _) | (with_reducible refine Kd.C_drew ?_))); (case side8 => exact HC4.out); (case side9 => repeat (first | exact HR5.out | (with_reducible refine Kd.C_alloc ?_ _) | (with_reducible refine Kd.C_drewN ?_ _) | (with_reducible refine Kd.C_drew ?_))); (case side10 => exact HC5.out); rintro e w' ⟨rfl, ⟨nd, rfl⟩⟩; refine ⟨_, rfl, ?_⟩) | ((with_reducible refine gate_dst (N := 32) rfl ?_); refine Kd.R_lit (Kd.int .u8) _ 5 ?hg (N := 32) ?hd (xs := ([] : List Int)) (inner := []) (ok := fun _ => True) (okp := fun _ => True) ?hr ?hp (fun _ hk => hk) trivial (Below.refl _ _) (Nat.le_refl _) (by simp) ?_; (case hd => rfl); (case hg => rfl); (case hr => first | (go_simp; done) | (go_simp; rfl)); (case hp => exact (Reps.none _ _)); intro v303 w11 ho12 hb hg_ hnew_; clear hg_ hnew_; (first | rw [← Ny302.out] at ho12 | (simp only [Int.reduceToNat] at ho12; rw [← Ny302.out] at ho12)); have n0_ := Aside0.mk (Kd.R_lower ho12 (below_size (by repeat (first | (with_reducible first | exact HB.out | apply below_alloc | apply pw_below_drewN | apply below_drew1) | exact HB.out)))); have n1_ := Aside0.mk (below_step (by repeat (first | (with_reducible first | exact HB.out | apply below_alloc | apply pw_below_drewN | apply below_drew1) | exact HB.out)) hb); clear HB; have HO304 := n0_; have HB := n1_; clear n0_ n1_; clear hb ho12) | ((with_reducible refine gate_builtin (b := .append) (xs := #[.tmp 32, .tmp 33]) rfl ?_); at_builtin; refine Kd.R_append_rows (Kd.int .u8) (w0 := w) w.heap.size rfl (.tmp 32) (.tmp 33) 31 5 (.int .u8 0) 1 rfl Try.underlying31 info5 rfl (by decide) (by omega) v303 y302 l0 _ _ _ (fun _ => True) (fun _ => False) rfl rfl ?aO ?aR (fun _ _ h => h) (fun _ h => h.elim) ?aF ?aB ?aS ?aL ?_; (case aR => repeat (first | exact (Kd.C_below HR0.out HB.out) | (with_reducible refine Kd.C_alloc ?_ _) | (with_reducible refine Kd.C_drewN ?_ _) | (with_reducible refine Kd.C_drew ?_))); (case aB => exact (by repeat (first | (with_reducible first | exact HB.out | apply below_alloc | apply pw_below_drewN | apply below_drew1) | exact HB.out))); (case aF => exact (fun _ _ => trivial)); (case aO => exact (by (with_reducible repeat (first | apply Kd.R_alloc | apply Kd.R_drewN | apply Kd.R_drew)); exact HO304.out)); (case aS => exact (below_size (by repeat (first | (with_reducible first | exact HB.out | apply below_alloc | apply pw_below_drewN | apply below_drew1) | exact HB.out)))); (case aL => have := LMc9.out; omega); intro v306 w13 ho hb hg hat; rw [← Ny305.out] at ho; have n0_ := Aside0.mk (hb); have n1_ := Aside0.mk (ho); clear HB; clear HO304; have HB := n0_; have HO307 := n1_; clear n0_ n1_; clear ho hb hg hat) | ((with_reducible refine gate_callee (f := 45) rfl ?_); refine goesL_ (some 36) rfl rfl Try.func45 (by kernel_rfl) rfl #[.slice A3 l3.length c3] rfl (by (try simp only [List.map_toArray, List.map_cons, List.map_nil]); first | done | rfl | (simp only [List.length_drop, List.length_take]; rfl)) ?_; (with_reducible refine (slabvaultref13_tuples.calls k _ _ l3 t308 _ ?side1 ?side2 A10.out).mono ?_); (case side1 => repeat (first | exact (Kd.C_below HR3.out HB.out) | (with_reducible refine Kd.C_alloc ?_ _) | (with_reducible refine Kd.C_drewN ?_ _) | (with_reducible refine Kd.C_drew ?_))); (case side2 => exact HC3.out); rintro e w14 ⟨v309, rfl, ho0, hb⟩; refine ⟨_, rfl, ?_⟩; have n0_ := Aside0.mk (Kd.R_below (by (with_reducible repeat (first | apply Kd.R_alloc | apply Kd.R_drewN | apply Kd.R_drew)); exact HO307.out) hb); have n1_ := Aside0.mk (Kd.N_lower (Kd.N_mono (ok' := fun k_ => some k_ ≠ (v306 : Value).ownBlock) ho0 (fun k_ hk_ => (Kd.fresh' (Kd.R_lt (by (with_reducible repeat (first | apply Kd.R_alloc | apply Kd.R_drewN | apply Kd.R_drew)); exact HO307.out)) k_ hk_))) (below_size (by repeat (first | (with_reducible first | exact HB.out | apply below_alloc | apply pw_below_drewN | apply below_drew1) | exact HB.out)))); have n2_ := Aside0.mk (below_step (by repeat (first | (with_reducible first | exact HB.out | apply below_alloc | apply pw_below_drewN | apply below_drew1) | exact HB.out)) hb); clear HO307; clear HB; have HO307 := n0_; have HO310 := n1_; have HB := n2_; clear n0_ n1_ n2_; (try clear hb); (try clear hb2); (try clear hk); (try clear hi); (try clear ho0)))
      go_loopg [17] k (fun kq v17 w' => ∃ (x15_1 : List Int) (x17_1 : Int), v17 = .int .i64 x17_1 ∧ Aside0 (slabvaultref13_Paste.l0 kq a1 l2 l3 l4 l5 x15_1 t308 x17_1 = some (r1, r2)) ∧ Aside0 (kq ≤ k) ∧ Aside0 (Kd.R (Kd.int .u8) 5 w' w.heap.size (fun _ => True) v306 x15_1) ∧ Aside0 (Kd.N (Kd.slice 3 (Kd.int .i64)) 22 w' w.heap.size (fun k_ => some k_ ≠ (v306 : Value).ownBlock) v309 t308) ∧ Aside0 (Below w.heap.size w w'))
      case atStart => exact ⟨(y305), (0), (by first | rfl | (simp; done) | (simp [*]; done)), H', ⟨Nat.le_refl _⟩, ⟨by (with_reducible repeat (first | apply Kd.R_alloc | apply Kd.R_drewN | apply Kd.R_drew)); exact HO307.out⟩, ⟨by (with_reducible repeat (first | apply Kd.N_alloc | apply Kd.N_drewN | apply Kd.N_drew)); exact HO310.out⟩, ⟨by repeat (first | (with_reducible first | exact HB.out | apply below_alloc | apply pw_below_drewN | apply below_drew1) | exact HB.out)⟩⟩
      case round =>
        clear H'
        try clear c2
        try clear p2
        try clear c3
        try clear c4
        try clear c5
        try clear c8
        try clear c8b0
        try clear c8b1
        try clear c9
        obtain ⟨x15_1, x17_1, rfl, HA, HK1, HO_15, HO_16, HB⟩ := hrel
        cases gk with
        | zero => exact absurd HA.out (by simp [slabvaultref13_Paste.l0])
        | succ k1 =>
          have H := HA.out
          clear HA
          simp only [slabvaultref13_Paste.l0] at H
          by_cases c15 : x17_1 < (t308.length : Int)
          · rw [if_pos c15] at H
            have c15b0 : decide (x17_1 < (t308.length : Int)) = true := decide_eq_true c15
            clear c15
            by_cases c16 : 0 ≤ x17_1
            · rw [if_pos c16] at H
              have c16b0 : decide (0 ≤ x17_1) = true := decide_eq_true c16
              clear c16
              replace H := Option.bind_eq_some_iff.mp H
              obtain ⟨⟨t312, t313⟩, A170, H⟩ := H
              replace H : (if t313 = true then ((slabvaultref12_Place.f k1 l2 t312).bind fun t316 => (slabvaultref13_Paste.l1 k1 a1 l2 l3 l4 l5 x15_1 t308 x17_1 (wrap64 (t316 * a1)) 0)) else (slabvaultref13_Paste.l0 k1 a1 l2 l3 l4 l5 x15_1 t308 (wrap64 (x17_1 + 1)))) = some (r1, r2) := H
              have A17 := Aside0.mk A170
              clear A170
              by_cases c18 : t313 = true
              · subst c18
                have H1 : ((slabvaultref12_Place.f k1 l2 t312).bind fun t316 => (slabvaultref13_Paste.l1 k1 a1 l2 l3 l4 l5 x15_1 t308 x17_1 (wrap64 (t316 * a1)) 0)) = some (r1, r2) := by rw [if_pos rfl] at H; exact H
                clear H
                have H := H1
                clear H1
                replace H := Option.bind_eq_some_iff.mp H
                obtain ⟨t316, A190, H⟩ := H
                replace H : (slabvaultref13_Paste.l1 k1 a1 l2 l3 l4 l5 x15_1 t308 x17_1 (wrap64 (t316 * a1)) 0) = some (r1, r2) := H
                have A19 := Aside0.mk A190
                clear A190
                have H' := Aside0.mk H
                clear H
                obtain ⟨Ao20, co20, eo20⟩ := Kd.N_slice HO_16.out
                subst eo20
                have p311 : 0 ≤ (x17_1 : Int) := of_decide_eq_true (by first | (with_reducible assumption) | assumption)
                have q311 : x17_1 < (t308.length : Int) := of_decide_eq_true (by first | (with_reducible assumption) | assumption)
                obtain ⟨ad311, A311_0, c311_0, e311, hx311_0, hl311_0, hi311_0⟩ := at_L1 (Kd.N_reads' HO_16.out).2.2 x17_1 p311 q311
                cases e311
                obtain ⟨ce311, hce311, hMe311, hcc311⟩ := Kd.N_get HO_16.out [] x17_1 p311 (by first | exact q311 | exact of_decide_eq_true (by first | (with_reducible assumption) | assumption) | (have e_ := (Kd.N_reads' HO_16.out).1; omega))
                obtain ⟨ua311_0, uc311_0, rfl, ul311_0, ge311_0⟩ := Kd.FK_slice_open hMe311
                have hv311_0 := hcc311 0 _ rfl
                rw [Nat.add_zero, show ((Kd.slice 3 (Kd.int .i64))).sz = 1 from rfl, Nat.mul_one] at hv311_0
                replace hv311_0 := Option.some.inj (hv311_0.symm.trans hx311_0)
                injection hv311_0 with hva_ hvn_ hvc_
                rw [hva_] at ge311_0
                rw [hvc_] at ul311_0
                have HL311_0 := Aside0.mk (show Kd.V (Kd.int .i64) 3 _ w.heap.size _ _ (rd_L1 t308 x17_1) from Kd.V_mk ul311_0 ge311_0)
                clear hva_ hvn_ hvc_ ge311_0 ul311_0
                clear hcc311 hce311
                have HR311_0 := Aside0.mk hi311_0
                have HC311_0 := Aside0.mk hl311_0
                clear hi311_0 hl311_0
                replace p311 := eq_true p311
                replace q311 := eq_true q311
                go_wp2_with (first | ((with_reducible refine gate_callee (f := 46) rfl ?_); refine goesL_ (some 51) rfl rfl Try.func46 (by kernel_rfl) rfl #[.slice A2 l2.length c2, .slice A3 l3.length c3, .slice A4 l4.length c4, .slice A311_0 (rd_L1 t308 x17_1).length c311_0] rfl (by (try simp only [List.map_toArray, List.map_cons, List.map_nil]); first | done | rfl | (simp only [List.length_drop, List.length_take]; rfl)) ?_; (with_reducible refine (slabvaultref13_where.calls k1 _ _ l2 _ _ l3 _ _ l4 _ _ (rd_L1 t308 x17_1) t312 true _ ?side1 ?side2 ?side3 ?side4 ?side5 ?side6 ?side7 ?side8 A17.out).mono ?_); (case side1 => repeat (first | exact (Kd.C_below HR2.out HB.out) | (with_reducible refine Kd.C_alloc ?_ _) | (with_reducible refine Kd.C_drewN ?_ _) | (with_reducible refine Kd.C_drew ?_))); (case side2 => exact HC2.out); (case side3 => repeat (first | exact (Kd.C_below HR3.out HB.out) | (with_reducible refine Kd.C_alloc ?_ _) | (with_reducible refine Kd.C_drewN ?_ _) | (with_reducible refine Kd.C_drew ?_))); (case side4 => exact HC3.out); (case side5 => repeat (first | exact (Kd.C_below HR4.out HB.out) | (with_reducible refine Kd.C_alloc ?_ _) | (with_reducible refine Kd.C_drewN ?_ _) | (with_reducible refine Kd.C_drew ?_))); (case side6 => exact HC4.out); (case side7 => repeat (first | exact (by repeat (first | (with_reducible exact HR311_0.out) | (with_reducible refine Kd.C_alloc ?_ _) | (with_reducible refine Kd.C_drewN ?_ _) | (with_reducible refine Kd.C_drew ?_) | exact HR311_0.out)) | (with_reducible refine Kd.C_alloc ?_ _) | (with_reducible refine Kd.C_drewN ?_ _) | (with_reducible refine Kd.C_drew ?_))); (case side8 => exact HC311_0.out); rintro e w21 ⟨v314, rfl, ho0, hb⟩; refine ⟨_, rfl, ?_⟩; have n0_ := Aside0.mk (Kd.R_below (by (with_reducible repeat (first | apply Kd.R_alloc | apply Kd.R_drewN | apply Kd.R_drew)); exact HO_15.out) hb); have n1_ := Aside0.mk (Kd.N_elder' (by (with_reducible repeat (first | apply Kd.N_alloc | apply Kd.N_drewN | apply Kd.N_drew)); exact HO_16.out) (Kd.R_base ho0) hb); have n2_ := Aside0.mk (Kd.V_elder' (by (with_reducible repeat (first | apply Kd.V_alloc | apply Kd.V_drewN | apply Kd.V_drew)); exact HL311_0.out) (Kd.R_base ho0) hb); have n3_ := Aside0.mk (Kd.R_lower ho0 (below_size (by repeat (first | (with_reducible first | exact HB.out | apply below_alloc | apply pw_below_drewN | apply below_drew1) | exact HB.out)))); have n4_ := Aside0.mk (Kd.C_below (by repeat (first | (with_reducible exact HR311_0.out) | (with_reducible refine Kd.C_alloc ?_ _) | (with_reducible refine Kd.C_drewN ?_ _) | (with_reducible refine Kd.C_drew ?_) | exact HR311_0.out)) hb); have n5_ := Aside0.mk (below_step (by repeat (first | (with_reducible first | exact HB.out | apply below_alloc | apply pw_below_drewN | apply below_drew1) | exact HB.out)) hb); clear HO_15; clear HO_16; clear HL311_0; clear HR311_0; clear HB; have HO_15 := n0_; have HO_16 := n1_; have HL311_0 := n2_; have HO315 := n3_; have HR311_0 := n4_; have HB := n5_; clear n0_ n1_ n2_ n3_ n4_ n5_; (try clear hb); (try clear hb2); (try clear hk); (try clear hi); (try clear ho0); obtain ⟨Ao22, co22, eo22⟩ := Kd.R_slice HO315.out; subst eo22) | ((with_reducible refine gate_callee (f := 47) rfl ?_); refine goesL_ (some 57) rfl rfl Try.func47 (by kernel_rfl) rfl #[.slice A2 l2.length c2, .slice Ao22 t312.length co22] rfl (by (try simp only [List.map_toArray, List.map_cons, List.map_nil]); first | done | rfl | (simp only [List.length_drop, List.length_take]; rfl)) ?_; (with_reducible refine (slabvaultref12_Place.calls k1 _ _ l2 _ _ t312 t316 _ ?side1 ?side2 ?side3 ?side4 A19.out).mono ?_); (case side1 => repeat (first | exact (Kd.C_below HR2.out HB.out) | (with_reducible refine Kd.C_alloc ?_ _) | (with_reducible refine Kd.C_drewN ?_ _) | (with_reducible refine Kd.C_drew ?_))); (case side2 => exact HC2.out); (case side3 => repeat (first | exact (Kd.R_reads' HO315.out).2.2 | (with_reducible refine Kd.C_alloc ?_ _) | (with_reducible refine Kd.C_drewN ?_ _) | (with_reducible refine Kd.C_drew ?_))); (case side4 => exact (Kd.R_reads' HO315.out).2.1); rintro e w' ⟨rfl, ⟨nd, rfl⟩⟩; refine ⟨_, rfl, ?_⟩))
                go_loopg [21] k1 (fun kq v21 w' => ∃ (x15_2 : List Int) (x21_2 : Int), v21 = .int .i64 x21_2 ∧ Aside0 (slabvaultref13_Paste.l1 kq a1 l2 l3 l4 l5 x15_2 t308 x17_1 (wrap64 (t316 * a1)) x21_2 = some (r1, r2)) ∧ Aside0 (kq ≤ k1) ∧ Aside0 (Kd.R (Kd.int .u8) 5 w' w.heap.size (fun _ => True) v306 x15_2) ∧ Aside0 (Kd.N (Kd.slice 3 (Kd.int .i64)) 22 w' w.heap.size (fun k_ => some k_ ≠ (v306 : Value).ownBlock) (.slice (some ad311) t308.length co20) t308) ∧ Aside0 (Below w.heap.size w w'))
                case atStart => exact ⟨(x15_1), (0), (by first | rfl | (simp; done) | (simp [*]; done)), H', ⟨Nat.le_refl _⟩, ⟨by (with_reducible repeat (first | apply Kd.R_alloc | apply Kd.R_drewN | apply Kd.R_drew)); exact HO_15.out⟩, ⟨by (with_reducible repeat (first | apply Kd.N_alloc | apply Kd.N_drewN | apply Kd.N_drew)); exact Kd.N_mono HO_16.out (fun _ hk => hk.1)⟩, ⟨by repeat (first | (with_reducible first | exact HB.out | apply below_alloc | apply pw_below_drewN | apply below_drew1) | exact HB.out)⟩⟩
                case round =>
                  clear H'
                  try clear c1
                  try clear c2
                  try clear p2
                  try clear c3
                  try clear p3
                  try clear q3
                  try clear hx3
                  try clear c4
                  try clear c5
                  try clear p6
                  try clear c8
                  try clear c8b0
                  try clear c8b1
                  try clear c9
                  try clear c15
                  try clear c15b0
                  try clear c16
                  try clear c16b0
                  try clear c18
                  try clear hx311_0
                  try clear p2
                  try clear p311
                  try clear q311
                  obtain ⟨x15_2, x21_2, rfl, HA, HK2, HO_15, HO_16, HB⟩ := hrel
                  cases gk with
                  | zero => exact absurd HA.out (by simp [slabvaultref13_Paste.l1])
                  | succ k2 =>
                    have H := HA.out
                    clear HA
                    simp only [slabvaultref13_Paste.l1] at H
                    by_cases c23 : x21_2 < a1
                    · rw [if_pos c23] at H
                      have c23b0 : decide (x21_2 < a1) = true := decide_eq_true c23
                      clear c23
                      obtain ⟨ji24, hji24⟩ : ∃ j_ : Int, (wrap64 ((wrap64 (x17_1 * a1)) + x21_2)) = j_ := ⟨_, rfl⟩
                      replace H : (if 0 ≤ (ji24) then (if (ji24) < (l5.length : Int) then (if 0 ≤ (wrap64 ((wrap64 (t316 * a1)) + x21_2)) then (if (wrap64 ((wrap64 (t316 * a1)) + x21_2)) < (x15_2.length : Int) then (slabvaultref13_Paste.l1 k2 a1 l2 l3 l4 l5 (x15_2.set ((wrap64 ((wrap64 (t316 * a1)) + x21_2)) : Int).toNat (rd l5 (ji24))) t308 x17_1 (wrap64 (t316 * a1)) (wrap64 (x21_2 + 1))) else (none)) else (none)) else (none)) else (none)) = some (r1, r2) := by first | (rw [hji24] at H; exact H) | (simp only [hji24] at H ⊢; exact H)
                      have hji24w : (IntKind.i64.wrap ((wrap64 (x17_1 * a1)) + x21_2)) = ji24 := (i64_w _).trans hji24
                      by_cases c25 : 0 ≤ (ji24)
                      · rw [if_pos c25] at H
                        have c25b0 : decide (0 ≤ (ji24)) = true := decide_eq_true c25
                        clear c25
                        by_cases c26 : (ji24) < (l5.length : Int)
                        · rw [if_pos c26] at H
                          have c26b0 : decide ((ji24) < (l5.length : Int)) = true := decide_eq_true c26
                          clear c26
                          obtain ⟨ji27, hji27⟩ : ∃ j_ : Int, (wrap64 ((wrap64 (t316 * a1)) + x21_2)) = j_ := ⟨_, rfl⟩
                          replace H : (if 0 ≤ (ji27) then (if (ji27) < (x15_2.length : Int) then (slabvaultref13_Paste.l1 k2 a1 l2 l3 l4 l5 (x15_2.set ((ji27) : Int).toNat (rd l5 (ji24))) t308 x17_1 (wrap64 (t316 * a1)) (wrap64 (x21_2 + 1))) else (none)) else (none)) = some (r1, r2) := by first | (rw [hji27] at H; exact H) | (simp only [hji27] at H ⊢; exact H)
                          have hji27w : (IntKind.i64.wrap ((wrap64 (t316 * a1)) + x21_2)) = ji27 := (i64_w _).trans hji27
                          by_cases c28 : 0 ≤ (ji27)
                          · rw [if_pos c28] at H
                            have c28b0 : decide (0 ≤ (ji27)) = true := decide_eq_true c28
                            clear c28
                            by_cases c29 : (ji27) < (x15_2.length : Int)
                            · rw [if_pos c29] at H
                              have c29b0 : decide ((ji27) < (x15_2.length : Int)) = true := decide_eq_true c29
                              clear c29
                              obtain ⟨y318, hy318⟩ : ∃ y_ : List Int, y_ = (x15_2.set ((ji27) : Int).toNat (rd l5 (ji24))) := ⟨_, rfl⟩
                              replace H : (slabvaultref13_Paste.l1 k2 a1 l2 l3 l4 l5 y318 t308 x17_1 (wrap64 (t316 * a1)) (wrap64 (x21_2 + 1))) = some (r1, r2) := by first | (rw [hy318]; with_reducible exact H) | (have H2_ := (Option.bind_some _ _).symm.trans H; rw [hy318]; with_reducible exact H2_) | (have H2_ := (Option.bind_some _ _).symm.trans H; with_reducible exact H2_) | with_reducible exact H | (rw [hy318]; exact H) | exact H
                              have Ny318 := Aside0.mk hy318
                              clear hy318
                              have H' := Aside0.mk H
                              clear H
                              have p317 : 0 ≤ ((ji24) : Int) := of_decide_eq_true (by first | (with_reducible assumption) | assumption)
                              have q317 : (ji24) < (l5.length : Int) := of_decide_eq_true (by first | (with_reducible assumption) | assumption)
                              obtain ⟨ad317, e317, hx317_0⟩ := Kd.at_int HR5.out (ji24) p317 q317
                              cases e317
                              replace hx317_0 := (HB.out.cell (World.block_lt_of_cell? w _ hx317_0)).trans hx317_0
                              replace p317 := eq_true p317
                              replace q317 := eq_true q317
                              have p30 : 0 ≤ ((ji27) : Int) := of_decide_eq_true (by first | (with_reducible assumption) | assumption)
                              have q30 : ((ji27) : Int) < ((x15_2.length : Int) : Int) := of_decide_eq_true (by first | (with_reducible assumption) | assumption)
                              obtain ⟨go30, co30, eo30, gb30, gl30, cl30, HG30⟩ := Kd.R_form HO_15.out (by omega)
                              (first | cases eo30 | (injection eo30 with ea_ en_ ec_; (first | subst ea_ | (injection ea_ with ea_; subst ea_)); subst ec_; clear en_))
                              have GB30 := Aside0.mk gb30
                              have GG30 := Aside0.mk HG30
                              clear gb30 gl30 HG30
                              obtain ⟨hx30_0, hf30_0⟩ := Kd.R_celln 0 HO_15.out ((ji27) : Int) p30 q30
                              replace p30 := eq_true p30
                              replace q30 := eq_true q30
                              have HP31 := Kd.R_putg HO_15.out ((ji27) : Int) (rd l5 (ji24))
                              go_wp2_with (first | ((with_reducible refine gate_store (t := 5) (p := 77) rfl ?_); refine store_event (t := 5) (p := 77) (v := ?vo_w32) (w1 := (wr.setCell ⟨go30, ((ji27) : Int).toNat, none⟩ (.int .u8 (rd l5 (ji24))))) ?hg ?ho ?hn ?hr ?_; (case ho => rfl); (case hg => rfl); (case hn => rfl); (case hr => first | (go_simp; done) | (go_simp; rfl)); intro w32 hw; have hg : wr.grownBy w32 (some go30) := (by rw [hw]; exact HP31.2); have hp_ : Kd.R (Kd.int .u8) 5 w32 w.heap.size (fun _ => True) (.slice (some ⟨go30, 0, none⟩) x15_2.length co30) y318 := (by rw [hw, Ny318.out]; exact HP31.1); clear HP31; have n0_ := Aside0.mk (hp_); have n1_ := Aside0.mk (Kd.N_afterv (v := (.slice (some ⟨go30, 0, none⟩) x15_2.length co30)) (v1 := (.slice (some ⟨go30, 0, none⟩) x15_2.length co30)) (ok := (fun _ => True)) (by (with_reducible repeat (first | apply Kd.N_alloc | apply Kd.N_drewN | apply Kd.N_drew)); exact Kd.N_mono HO_16.out (fun _ hk => ⟨trivial, hk⟩)) hg (.inl rfl)); have n2_ := Aside0.mk ((by rw [hw]; exact below_set (HB.out) GB30.out : Below w.heap.size w w32)); clear HO_15; clear HO_16; clear HB; have HO_15 := n0_; have HO_16 := n1_; have HB := n2_; clear n0_ n1_ n2_; clear hg hw hp_))
                              go_roundg k2
                              case measure => have := HK1.out; have := HK2.out; omega
                              case rel => exact ⟨(y318), (wrap64 (x21_2 + 1)), (by first | rfl | (simp; done) | (simp [*]; done)), H', ⟨by have := HK1.out; have := HK2.out; omega⟩, ⟨by (with_reducible repeat (first | apply Kd.R_alloc | apply Kd.R_drewN | apply Kd.R_drew)); exact HO_15.out⟩, ⟨by (with_reducible repeat (first | apply Kd.N_alloc | apply Kd.N_drewN | apply Kd.N_drew)); exact Kd.N_mono HO_16.out (fun _ hk => hk.2)⟩, ⟨by repeat (first | (with_reducible first | exact HB.out | apply below_alloc | apply pw_below_drewN | apply below_drew1) | exact HB.out)⟩⟩
                            · rw [if_neg c29] at H
                              exact absurd H (by simp)
                          · rw [if_neg c28] at H
                            exact absurd H (by simp)
                        · rw [if_neg c26] at H
                          exact absurd H (by simp)
                      · rw [if_neg c25] at H
                        exact absurd H (by simp)
                    · rw [if_neg c23] at H
                      have c23b0 : decide (x21_2 < a1) = false := decide_eq_false c23
                      clear c23
                      have H' := Aside0.mk H
                      clear H
                      go_wp2
                      go_roundg k2
                      case measure => have := HK1.out; have := HK2.out; omega
                      case rel => exact ⟨(x15_2), (wrap64 (x17_1 + 1)), (by first | rfl | (simp; done) | (simp [*]; done)), H', ⟨by have := HK1.out; have := HK2.out; omega⟩, ⟨by (with_reducible repeat (first | apply Kd.R_alloc | apply Kd.R_drewN | apply Kd.R_drew)); exact HO_15.out⟩, ⟨by (with_reducible repeat (first | apply Kd.N_alloc | apply Kd.N_drewN | apply Kd.N_drew)); exact HO_16.out⟩, ⟨by repeat (first | (with_reducible first | exact HB.out | apply below_alloc | apply pw_below_drewN | apply below_drew1) | exact HB.out)⟩⟩
              · replace c18 := Bool.eq_false_iff.mpr c18
                subst c18
                have H1 : (slabvaultref13_Paste.l0 k1 a1 l2 l3 l4 l5 x15_1 t308 (wrap64 (x17_1 + 1))) = some (r1, r2) := by rw [if_neg (show ¬ (false = true) by decide)] at H; exact H
                clear H
                have H := H1
                clear H1
                have H' := Aside0.mk H
                clear H
                obtain ⟨Ao33, co33, eo33⟩ := Kd.N_slice HO_16.out
                subst eo33
                have p311 : 0 ≤ (x17_1 : Int) := of_decide_eq_true (by first | (with_reducible assumption) | assumption)
                have q311 : x17_1 < (t308.length : Int) := of_decide_eq_true (by first | (with_reducible assumption) | assumption)
                obtain ⟨ad311, A311_0, c311_0, e311, hx311_0, hl311_0, hi311_0⟩ := at_L1 (Kd.N_reads' HO_16.out).2.2 x17_1 p311 q311
                cases e311
                obtain ⟨ce311, hce311, hMe311, hcc311⟩ := Kd.N_get HO_16.out [] x17_1 p311 (by first | exact q311 | exact of_decide_eq_true (by first | (with_reducible assumption) | assumption) | (have e_ := (Kd.N_reads' HO_16.out).1; omega))
                obtain ⟨ua311_0, uc311_0, rfl, ul311_0, ge311_0⟩ := Kd.FK_slice_open hMe311
                have hv311_0 := hcc311 0 _ rfl
                rw [Nat.add_zero, show ((Kd.slice 3 (Kd.int .i64))).sz = 1 from rfl, Nat.mul_one] at hv311_0
                replace hv311_0 := Option.some.inj (hv311_0.symm.trans hx311_0)
                injection hv311_0 with hva_ hvn_ hvc_
                rw [hva_] at ge311_0
                rw [hvc_] at ul311_0
                have HL311_0 := Aside0.mk (show Kd.V (Kd.int .i64) 3 _ w.heap.size _ _ (rd_L1 t308 x17_1) from Kd.V_mk ul311_0 ge311_0)
                clear hva_ hvn_ hvc_ ge311_0 ul311_0
                clear hcc311 hce311
                have HR311_0 := Aside0.mk hi311_0
                have HC311_0 := Aside0.mk hl311_0
                clear hi311_0 hl311_0
                replace p311 := eq_true p311
                replace q311 := eq_true q311
                go_wp2_with (first | ((with_reducible refine gate_callee (f := 46) rfl ?_); refine goesL_ (some 51) rfl rfl Try.func46 (by kernel_rfl) rfl #[.slice A2 l2.length c2, .slice A3 l3.length c3, .slice A4 l4.length c4, .slice A311_0 (rd_L1 t308 x17_1).length c311_0] rfl (by (try simp only [List.map_toArray, List.map_cons, List.map_nil]); first | done | rfl | (simp only [List.length_drop, List.length_take]; rfl)) ?_; (with_reducible refine (slabvaultref13_where.calls k1 _ _ l2 _ _ l3 _ _ l4 _ _ (rd_L1 t308 x17_1) t312 false _ ?side1 ?side2 ?side3 ?side4 ?side5 ?side6 ?side7 ?side8 A17.out).mono ?_); (case side1 => repeat (first | exact (Kd.C_below HR2.out HB.out) | (with_reducible refine Kd.C_alloc ?_ _) | (with_reducible refine Kd.C_drewN ?_ _) | (with_reducible refine Kd.C_drew ?_))); (case side2 => exact HC2.out); (case side3 => repeat (first | exact (Kd.C_below HR3.out HB.out) | (with_reducible refine Kd.C_alloc ?_ _) | (with_reducible refine Kd.C_drewN ?_ _) | (with_reducible refine Kd.C_drew ?_))); (case side4 => exact HC3.out); (case side5 => repeat (first | exact (Kd.C_below HR4.out HB.out) | (with_reducible refine Kd.C_alloc ?_ _) | (with_reducible refine Kd.C_drewN ?_ _) | (with_reducible refine Kd.C_drew ?_))); (case side6 => exact HC4.out); (case side7 => repeat (first | exact (by repeat (first | (with_reducible exact HR311_0.out) | (with_reducible refine Kd.C_alloc ?_ _) | (with_reducible refine Kd.C_drewN ?_ _) | (with_reducible refine Kd.C_drew ?_) | exact HR311_0.out)) | (with_reducible refine Kd.C_alloc ?_ _) | (with_reducible refine Kd.C_drewN ?_ _) | (with_reducible refine Kd.C_drew ?_))); (case side8 => exact HC311_0.out); rintro e w34 ⟨v314, rfl, ho0, hb⟩; refine ⟨_, rfl, ?_⟩; have n0_ := Aside0.mk (Kd.R_below (by (with_reducible repeat (first | apply Kd.R_alloc | apply Kd.R_drewN | apply Kd.R_drew)); exact HO_15.out) hb); have n1_ := Aside0.mk (Kd.N_elder' (by (with_reducible repeat (first | apply Kd.N_alloc | apply Kd.N_drewN | apply Kd.N_drew)); exact HO_16.out) (Kd.R_base ho0) hb); have n2_ := Aside0.mk (Kd.V_elder' (by (with_reducible repeat (first | apply Kd.V_alloc | apply Kd.V_drewN | apply Kd.V_drew)); exact HL311_0.out) (Kd.R_base ho0) hb); have n3_ := Aside0.mk (Kd.R_lower ho0 (below_size (by repeat (first | (with_reducible first | exact HB.out | apply below_alloc | apply pw_below_drewN | apply below_drew1) | exact HB.out)))); have n4_ := Aside0.mk (Kd.C_below (by repeat (first | (with_reducible exact HR311_0.out) | (with_reducible refine Kd.C_alloc ?_ _) | (with_reducible refine Kd.C_drewN ?_ _) | (with_reducible refine Kd.C_drew ?_) | exact HR311_0.out)) hb); have n5_ := Aside0.mk (below_step (by repeat (first | (with_reducible first | exact HB.out | apply below_alloc | apply pw_below_drewN | apply below_drew1) | exact HB.out)) hb); clear HO_15; clear HO_16; clear HL311_0; clear HR311_0; clear HB; have HO_15 := n0_; have HO_16 := n1_; have HL311_0 := n2_; have HO315 := n3_; have HR311_0 := n4_; have HB := n5_; clear n0_ n1_ n2_ n3_ n4_ n5_; (try clear hb); (try clear hb2); (try clear hk); (try clear hi); (try clear ho0)))
                go_roundg k1
                case measure => have := HK1.out; omega
                case rel => exact ⟨(x15_1), (wrap64 (x17_1 + 1)), (by first | rfl | (simp; done) | (simp [*]; done)), H', ⟨by have := HK1.out; omega⟩, ⟨by (with_reducible repeat (first | apply Kd.R_alloc | apply Kd.R_drewN | apply Kd.R_drew)); exact HO_15.out⟩, ⟨by (with_reducible repeat (first | apply Kd.N_alloc | apply Kd.N_drewN | apply Kd.N_drew)); exact Kd.N_mono HO_16.out (fun _ hk => hk.1)⟩, ⟨by repeat (first | (with_reducible first | exact HB.out | apply below_alloc | apply pw_below_drewN | apply below_drew1) | exact HB.out)⟩⟩
            · rw [if_neg c16] at H
              exact absurd H (by simp)
          · rw [if_neg c15] at H
            have c15b0 : decide (x17_1 < (t308.length : Int)) = false := decide_eq_false c15
            clear c15
            simp only [Option.some.injEq, Prod.mk.injEq] at H
            obtain ⟨rfl, rfl⟩ := H
            obtain ⟨Ao35, co35, eo35⟩ := Kd.N_slice HO_16.out
            subst eo35
            go_wp2
            go_ret2
            exact ⟨_, by first | rfl | (simp [errW_none, errW_some] <;> rfl) | (simp [*, errW_none, errW_some] <;> rfl), by (with_reducible repeat (first | apply Kd.R_alloc | apply Kd.R_drewN | apply Kd.R_drew)); exact HO_15.out, by repeat (first | (with_reducible first | exact HB.out | apply below_alloc | apply pw_below_drewN | apply below_drew1) | exact HB.out)⟩
    · rw [if_neg c9] at H
      exact absurd H (by simp)
  · rw [if_neg c8] at H
    have c8b0 : (t301 == 0) = false := beq_eq_false_iff_ne.mpr c8
    have c8b1 : (t301 != 0) = true := bne_iff_ne.mpr c8
    simp only [Option.some.injEq, Prod.mk.injEq] at H
    obtain ⟨rfl, rfl⟩ := H
    go_enter Try.func32, Try.ntmps32
    go_wp2_with (first | ((with_reducible refine gate_callee (f := 44) rfl ?_); refine goesL_ (some 28) rfl rfl Try.func44 (by kernel_rfl) rfl #[.slice A0 l0.length c0, .int .i64 a1, .slice A2 l2.length c2, .slice A3 l3.length c3, .slice A4 l4.length c4, .slice A5 l5.length c5, .bool true] rfl (by (try simp only [List.map_toArray, List.map_cons, List.map_nil]); first | done | rfl | (simp only [List.length_drop, List.length_take]; rfl)) ?_; (with_reducible refine (slabvaultref13_bytes.calls k _ _ l0 a1 _ _ l2 _ _ l3 _ _ l4 _ _ l5 true t301 _ ?side1 ?side2 ?side3 ?side4 ?side5 ?side6 ?side7 ?side8 ?side9 ?side10 A7.out).mono ?_); (case side1 => repeat (first | exact HR0.out | (with_reducible refine Kd.C_alloc ?_ _) | (with_reducible refine Kd.C_drewN ?_ _) | (with_reducible refine Kd.C_drew ?_))); (case side2 => exact HC0.out); (case side3 => repeat (first | exact HR2.out | (with_reducible refine Kd.C_alloc ?_ _) | (with_reducible refine Kd.C_drewN ?_ _) | (with_reducible refine Kd.C_drew ?_))); (case side4 => exact HC2.out); (case side5 => repeat (first | exact HR3.out | (with_reducible refine Kd.C_alloc ?_ _) | (with_reducible refine Kd.C_drewN ?_ _) | (with_reducible refine Kd.C_drew ?_))); (case side6 => exact HC3.out); (case side7 => repeat (first | exact HR4.out | (with_reducible refine Kd.C_alloc ?_ _) | (with_reducible refine Kd.C_drewN ?_ _) | (with_reducible refine Kd.C_drew ?_))); (case side8 => exact HC4.out); (case side9 => repeat (first | exact HR5.out | (with_reducible refine Kd.C_alloc ?_ _) | (with_reducible refine Kd.C_drewN ?_ _) | (with_reducible refine Kd.C_drew ?_))); (case side10 => exact HC5.out); rintro e w' ⟨rfl, ⟨nd, rfl⟩⟩; refine ⟨_, rfl, ?_⟩))
    go_ret2
    exact ⟨_, by first | rfl | (simp [errW_none, errW_some] <;> rfl) | (simp [*, errW_none, errW_some] <;> rfl), by first | exact Kd.R_nil _ _ _ _ _ | exact Kd.N_nil _ _ _ _ _ | exact Kd.V_nil _ _ _ _ _ | exact Kd.Q_nil _ _ _ _ _ | exact Kd.S_nil _ _ _ _ _, by repeat (first | (with_reducible first | exact HB.out | apply below_alloc | apply pw_below_drewN | apply below_drew1) | exact HB.out)⟩
end Go.Proofs.Ytjbjofmcmjojlab.Wk
end
section
namespace Go.Proofs.Ytjbjofmcmjojlab.Wk
open Go.RowKit Go.Proofs.YtjbjofmcmjojlabW.PrintWords Go.Proofs.YtjbjofmcmjojlabW.PrintLast Go.Proofs.YtjbjofmcmjojlabW.PrintMore
attribute [local go_sem] max2_int min2_int max_two min_two max_three min_three max_four min_four
set_option linter.unusedVariables false
set_option linter.unusedSimpArgs false
section
open Go.Proofs.YtjbjofmcmjojlabQ
set_option maxHeartbeats 4000000 in
set_option maxRecDepth 10000 in
theorem gridPastes_heavy (k : Nat) (A0 : Option Addr) (c0 : Nat) (X : List Int) (z : Int) (A2 : Option Addr) (c2 : Nat) (D : List Int) (A3 : Option Addr) (c3 : Nat) (H : List Int) (A4 : Option Addr) (c4 : Nat) (co : List Int) (A5 : Option Addr) (c5 : Nat) (L : List Int) (w : World)
    (hr0 : Kd.C (Kd.int .u8) w A0 X.length X) (hc0 : X.length ≤ c0) (hr2 : Kd.C (Kd.int .i64) w A2 D.length D) (hc2 : D.length ≤ c2) (hr3 : Kd.C (Kd.int .i64) w A3 H.length H) (hc3 : H.length ≤ c3)
    (hr4 : Kd.C (Kd.int .i64) w A4 co.length co) (hc4 : co.length ≤ c4) (hr5 : Kd.C (Kd.int .u8) w A5 L.length L) (hc5 : L.length ≤ c5) (hh : slabvaultlaw13_heavy.f k X z D H co L = some true) :
    Calls Try.prog 9 #[.agg #[.slice A0 X.length c0, .int .i64 z, .slice A2 D.length c2, .slice A3 H.length c3, .slice A4 co.length c4, .slice A5 L.length c5]] w fun E w' => E = .returned (.bool true) ∧ Below w.heap.size w w' := by
  have hu := Try.underlying33
  go_enter Try.func9, Try.ntmps9
  go_upto_region 1 with (first | ((with_reducible refine gate_dst (N := 1) rfl ?_); refine box_event ?hg (N := 1) ?hd (cs := #[.slice A0 X.length c0, .int .i64 z, .slice A2 D.length c2, .slice A3 H.length c3, .slice A4 co.length c4, .slice A5 L.length c5]) (t := 33) ?hr ?_; (case hd => rfl); (case hg => rfl); (case hr => first | (go_simp; done) | (go_simp; rfl)); intro b hg w1 hbox hb; have HBX := Aside0.mk hbox; have HB := Aside0.mk hb; clear hbox hb))
  subst hg
  have HCA := Aside0.mk (CaseAt.mk HBX.out (Kd.C_below hr0 HB.out) hc0 (Kd.C_below hr2 HB.out) hc2 (Kd.C_below hr3 HB.out) hc3 (Kd.C_below hr4 HB.out) hc4 (Kd.C_below hr5 HB.out) hc5)
  have HH := Aside0.mk hh
  clear hr0 hc0 hr2 hc2 hr3 hc3 hr4 hc4 hr5 hc5 HBX hh
  obtain ⟨b0, b1, b2, b3, b4, b5⟩ := caseAt_cells HCA.out
  go_upto_region 2 with (go_at_call 15; refine (slabvaultlaw13_heavy.calls k A0 c0 X z A2 c2 D A3 c3 H A4 c4 co A5 c5 L true _ HCA.out.r0 HCA.out.l0 HCA.out.r2 HCA.out.l2 HCA.out.r3 HCA.out.l3 HCA.out.r4 HCA.out.l4 HCA.out.r5 HCA.out.l5 HH.out).mono ?_; rintro e_ w2 ⟨rfl, hb⟩; have HB2 := Aside0.mk (below_step HB.out hb); have HC2 := Aside0.mk (caseAt_below HCA.out hb); clear hb)
  clear b0 b1 b2 b3 b4 b5
  clear HH HCA HB
  go_wp2_with (go_at_call 14; refine (slabvaultlaw13_lives.calls true _ rfl).mono ?_; rintro e_ w3 ⟨rfl, hb⟩; have HBE := Aside0.mk (below_step HB2.out hb); clear hb)
  go_ret
  exact ⟨rfl, HBE.out⟩
set_option maxHeartbeats 4000000 in
set_option maxRecDepth 10000 in
theorem gridPastes_light (k : Nat) (A0 : Option Addr) (c0 : Nat) (X : List Int) (z : Int) (A2 : Option Addr) (c2 : Nat) (D : List Int) (A3 : Option Addr) (c3 : Nat) (H : List Int) (A4 : Option Addr) (c4 : Nat) (co : List Int) (A5 : Option Addr) (c5 : Nat) (L : List Int) (w : World)
    (hr0 : Kd.C (Kd.int .u8) w A0 X.length X) (hc0 : X.length ≤ c0) (hr2 : Kd.C (Kd.int .i64) w A2 D.length D) (hc2 : D.length ≤ c2) (hr3 : Kd.C (Kd.int .i64) w A3 H.length H) (hc3 : H.length ≤ c3)
    (hr4 : Kd.C (Kd.int .i64) w A4 co.length co) (hc4 : co.length ≤ c4) (hr5 : Kd.C (Kd.int .u8) w A5 L.length L) (hc5 : L.length ≤ c5) (hh : slabvaultlaw13_heavy.f k X z D H co L = some false) (lX : X.length ≤ 10000) (lL : L.length ≤ 10000) (r : List Int) (e : Int) (h1 : grid_Paste.f k X z D H co L = some (r, e)) (h2 : slabvaultref13_Paste.f k X z D H co L = some (r, e)) :
    Calls Try.prog 9 #[.agg #[.slice A0 X.length c0, .int .i64 z, .slice A2 D.length c2, .slice A3 H.length c3, .slice A4 co.length c4, .slice A5 L.length c5]] w fun E w' => E = .returned (.bool true) ∧ Below w.heap.size w w' := by
  have H1 := Aside0.mk h1
  have H2 := Aside0.mk h2
  have LX := Aside0.mk lX
  have LL := Aside0.mk lL
  clear h1 h2 lX lL
  have hu := Try.underlying33
  go_enter Try.func9, Try.ntmps9
  go_upto_region 1 with (first | ((with_reducible refine gate_dst (N := 1) rfl ?_); refine box_event ?hg (N := 1) ?hd (cs := #[.slice A0 X.length c0, .int .i64 z, .slice A2 D.length c2, .slice A3 H.length c3, .slice A4 co.length c4, .slice A5 L.length c5]) (t := 33) ?hr ?_; (case hd => rfl); (case hg => rfl); (case hr => first | (go_simp; done) | (go_simp; rfl)); intro b hg w1 hbox hb; have HBX := Aside0.mk hbox; have HB := Aside0.mk hb; clear hbox hb))
  subst hg
  have HCA := Aside0.mk (CaseAt.mk HBX.out (Kd.C_below hr0 HB.out) hc0 (Kd.C_below hr2 HB.out) hc2 (Kd.C_below hr3 HB.out) hc3 (Kd.C_below hr4 HB.out) hc4 (Kd.C_below hr5 HB.out) hc5)
  have HH := Aside0.mk hh
  clear hr0 hc0 hr2 hc2 hr3 hc3 hr4 hc4 hr5 hc5 HBX hh
  obtain ⟨b0, b1, b2, b3, b4, b5⟩ := caseAt_cells HCA.out
  go_upto_region 3 with (go_at_call 15; refine (slabvaultlaw13_heavy.calls k A0 c0 X z A2 c2 D A3 c3 H A4 c4 co A5 c5 L false _ HCA.out.r0 HCA.out.l0 HCA.out.r2 HCA.out.l2 HCA.out.r3 HCA.out.l3 HCA.out.r4 HCA.out.l4 HCA.out.r5 HCA.out.l5 HH.out).mono ?_; rintro e_ w2 ⟨rfl, hb⟩; have HB2 := Aside0.mk (below_step HB.out hb); have HC2 := Aside0.mk (caseAt_below HCA.out hb); clear hb)
  clear b0 b1 b2 b3 b4 b5
  clear HH HCA HB
  have hS := (fun (W' : World) (hb : Below w2.heap.size w2 W') => show Below w2.heap.size w2 W' ∧ W'.cell? ⟨w.heap.size, 0, none⟩ = some (.slice A0 X.length c0) ∧ W'.cell? ⟨w.heap.size, 5, none⟩ = some (.slice A5 L.length c5) from ⟨hb, (caseAt_cells (caseAt_below HC2.out hb)).1, (caseAt_cells (caseAt_below HC2.out hb)).2.2.2.2.2⟩)
  have HS := Aside0.mk hS
  clear hS
  refine start_ (n := 8) (S := fun W' => Below w2.heap.size w2 W' ∧ W'.cell? ⟨w.heap.size, 0, none⟩ = some (.slice A0 X.length c0) ∧ W'.cell? ⟨w.heap.size, 5, none⟩ = some (.slice A5 L.length c5)) (ds := []) #[false, false, false, false, false, false, false, false] (by kernel_rfl) rfl rfl (HS.out _ (below_drew (Below.refl _ _))) (fun hHeld => ?_)
  refine pure_ (i := 0) (N := some 12) (v := ?_) (a' := ?_) #[true, false, false, false, false, false, false, false] rfl rfl (by kernel_rfl) (fun _ _ _ h => h) (Or.inl ⟨by rfl, ?_⟩) ?_ ?_
  rotate_left
  · intro w'
    go_simp
    with_reducible rfl
  rotate_left
  · simp only [Act.put, List.setIfInBounds_toArray, List.set_cons_zero, List.set_cons_succ, i64_w, i32_w]
    rfl
  refine pure_ (i := 3) (N := some 15) (v := ?_) (a' := ?_) #[true, false, false, true, false, false, false, false] rfl rfl (by kernel_rfl) (fun _ _ _ h => h) (Or.inl ⟨by rfl, ?_⟩) ?_ ?_
  rotate_left
  · intro w'
    go_simp
    with_reducible rfl
  rotate_left
  · simp only [Act.put, List.setIfInBounds_toArray, List.set_cons_zero, List.set_cons_succ, i64_w, i32_w]
    rfl
  refine take_ (i := 1) (N := some 13) (v := ?_) (a' := ?_) #[true, true, false, true, false, false, false, false] rfl rfl (by kernel_rfl) (fun _ _ _ h => h) (Or.inl ⟨by rfl, ?_⟩) hHeld ?_ ?_
  rotate_left
  · rintro w' ⟨hB_, h0_, h5_⟩
    go_simp
    with_reducible rfl
  rotate_left
  · simp only [Act.put, List.setIfInBounds_toArray, List.set_cons_zero, List.set_cons_succ, i64_w, i32_w]
    rfl
  refine take_ (i := 4) (N := some 16) (v := ?_) (a' := ?_) #[true, true, false, true, true, false, false, false] rfl rfl (by kernel_rfl) (fun _ _ _ h => h) (Or.inl ⟨by rfl, ?_⟩) hHeld ?_ ?_
  rotate_left
  · rintro w' ⟨hB_, h0_, h5_⟩
    go_simp
    with_reducible rfl
  rotate_left
  · simp only [Act.put, List.setIfInBounds_toArray, List.set_cons_zero, List.set_cons_succ, i64_w, i32_w]
    rfl
  refine one_ (i := 2) (N := some 14) #[true, true, true, true, true, false, false, false] rfl rfl (by kernel_rfl) (by decide) (fun K hK => ?_)
  skip
  refine goes_ Try.func16 (by kernel_rfl) rfl #[.slice A0 X.length c0] (by rfl) rfl rfl (by (simp only [List.map_toArray, List.map_cons, List.map_nil]); rfl) ?_
  refine (lent_calls A0 c0 X _ (caseAt_below HC2.out hHeld.1).r0 (caseAt_below HC2.out hHeld.1).l0 LX.out).mono ?_
  rintro e_ WL1 ⟨g1, k1, rfl, hk, hg, hbuf, hb⟩
  have LK1 := Aside0.mk hk
  have LG1 := Aside0.mk hg
  have LB1 := Aside0.mk hbuf
  have hBn := below_then hHeld.1 hHeld.1.size hb
  clear hk hg hbuf hb
  refine ⟨_, rfl, ?_⟩
  refine hK.out _ _ (HS.out _ hBn) (fun hHeld => ?_)
  clear hK K hBn
  refine norm_ (a' := ?_) ?_ ?_
  rotate_left
  · show Act.put _ (some 14) _ = _
    simp only [Act.put, List.setIfInBounds_toArray, List.set_cons_zero, List.set_cons_succ, i64_w, i32_w]
    rfl
  refine one_ (i := 5) (N := some 17) #[true, true, true, true, true, true, false, false] rfl rfl (by kernel_rfl) (by decide) (fun K hK => ?_)
  skip
  refine goes_ Try.func16 (by kernel_rfl) rfl #[.slice A5 L.length c5] (by rfl) rfl rfl (by (simp only [List.map_toArray, List.map_cons, List.map_nil]); rfl) ?_
  refine (lent_calls A5 c5 L _ (caseAt_below HC2.out hHeld.1).r5 (caseAt_below HC2.out hHeld.1).l5 LL.out).mono ?_
  rintro e_ WL2 ⟨g2, k2, rfl, hk, hg, hbuf, hb⟩
  have LK2 := Aside0.mk hk
  have LG2 := Aside0.mk hg
  have LB2 := Aside0.mk hbuf
  have hBn := below_then hHeld.1 hHeld.1.size hb
  have LB1' := Aside0.mk (LB1.out.below hb)
  have LG1' := Aside0.mk (show g1 < g2 from Nat.lt_of_lt_of_le LB1.out.lt hg)
  clear LB1
  clear hk hg hbuf hb
  refine ⟨_, rfl, ?_⟩
  refine hK.out _ _ (HS.out _ hBn) (fun hHeld => ?_)
  clear hK K hBn
  refine norm_ (a' := ?_) ?_ ?_
  rotate_left
  · show Act.put _ (some 17) _ = _
    simp only [Act.put, List.setIfInBounds_toArray, List.set_cons_zero, List.set_cons_succ, i64_w, i32_w]
    rfl
  refine pure_ (i := 6) (N := some 3) (v := ?_) (a' := ?_) #[true, true, true, true, true, true, true, false] rfl rfl (by kernel_rfl) (fun _ _ _ h => h) (Or.inl ⟨by rfl, ?_⟩) ?_ ?_
  rotate_left
  · intro w'
    go_simp
    with_reducible rfl
  rotate_left
  · simp only [Act.put, List.setIfInBounds_toArray, List.set_cons_zero, List.set_cons_succ, i64_w, i32_w]
    rfl
  refine pure_ (i := 7) (N := some 4) (v := ?_) (a' := ?_) #[true, true, true, true, true, true, true, true] rfl rfl (by kernel_rfl) (fun _ _ _ h => h) (Or.inl ⟨by rfl, ?_⟩) ?_ ?_
  rotate_left
  · intro w'
    go_simp
    with_reducible rfl
  rotate_left
  · simp only [Act.put, List.setIfInBounds_toArray, List.set_cons_zero, List.set_cons_succ, i64_w, i32_w]
    rfl
  refine done_ (by kernel_rfl) ?_
  have HB3 := Aside0.mk (below_then HB2.out HB2.out.size hHeld.1)
  have HC3 := Aside0.mk (caseAt_below HC2.out hHeld.1)
  clear hHeld HS HC2 HB2
  generalize WL2 = w3 at HB3 HC3 LB2 LB1' ⊢
  have CIN := Aside0.mk ((buf_init LB1'.out).C rfl)
  have COW := Aside0.mk ((buf_init LB2.out).C rfl)
  have HBL := Aside0.mk (Below.refl w3.heap.size w3)
  have HCN := Aside0.mk (caseAt_below HC3.out HBL.out)
  obtain ⟨b0, b1, b2, b3, b4, b5⟩ := caseAt_cells HCN.out
  go_upto_region 5 with (go_at_call 31; refine (grid_Paste.calls k (some ⟨g2, 0, none⟩) k2 L z A2 c2 D A3 c3 H A4 c4 co (some ⟨g1, 0, none⟩) k1 X r e _ (Kd.C_below COW.out HBL.out) (Nat.le_of_succ_le LK2.out) HCN.out.r2 HCN.out.l2 HCN.out.r3 HCN.out.l3 HCN.out.r4 HCN.out.l4 (Kd.C_below CIN.out HBL.out) (Nat.le_of_succ_le LK1.out) H1.out).mono ?_; rintro e_ w4 ⟨v4, rfl, ho, hb⟩; obtain ⟨q4, ho, hq⟩ := ownB_at ho; obtain ⟨B4, d4, rfl, hd, hcx⟩ := ownAt_slice ho; have HO4 := Aside0.mk ho; have HQ4 := Aside0.mk hq; have HBW := Aside0.mk hb; clear ho hq hd hcx hb)
  have HBL2 := Aside0.mk (below_then HBL.out HBL.out.size HBW.out)
  have HQL4 := Aside0.mk (fun k_ hk => Nat.le_trans HBL.out.size (HQ4.out k_ hk).1)
  clear b0 b1 b2 b3 b4 b5
  clear HBL HCN
  have HBL := HBL2
  clear HBL2
  clear HBW
  have HCN := Aside0.mk (caseAt_below HC3.out HBL.out)
  obtain ⟨b0, b1, b2, b3, b4, b5⟩ := caseAt_cells HCN.out
  go_upto_region 6 with (go_at_call 32; refine (slabvaultref13_Paste.calls k A0 c0 X z A2 c2 D A3 c3 H A4 c4 co A5 c5 L r e _ HCN.out.r0 HCN.out.l0 HCN.out.r2 HCN.out.l2 HCN.out.r3 HCN.out.l3 HCN.out.r4 HCN.out.l4 HCN.out.r5 HCN.out.l5 H2.out).mono ?_; rintro e_ w6 ⟨v6, rfl, hv, hb⟩; obtain ⟨B6, d6, rfl⟩ := Kd.R_slice hv; have HV6 := Aside0.mk hv; have HBW := Aside0.mk hb; clear hv hb)
  have HBL2 := Aside0.mk (below_then HBL.out HBL.out.size HBW.out)
  clear b0 b1 b2 b3 b4 b5
  clear HBL HCN
  have HBL := HBL2
  clear HBL2
  have HO4' := Aside0.mk (ownAt_step HO4.out (fun k_ hk => HBW.out.block k_ (HQ4.out k_ hk).2))
  clear HO4
  have HO4 := HO4'
  clear HO4'
  have HQ46 := Aside0.mk (fun k_ (hk : q4 = some k_) => (HQ4.out k_ hk).2)
  have HCN := Aside0.mk (caseAt_below HC3.out HBL.out)
  obtain ⟨b0, b1, b2, b3, b4, b5⟩ := caseAt_cells HCN.out
  obtain ⟨_, _, hee, _, hcx⟩ := ownAt_slice HO4.out
  cases hee
  have hs1 := Kd.C_string (P := Try.prog) (A := B4) (c := d4) Try.underlying31 Try.underlying5 Try.underlying9 hcx
  have hs2 := Kd.C_string (P := Try.prog) (A := B6) (c := d6) Try.underlying31 Try.underlying5 Try.underlying9 (Kd.R_reads' HV6.out).2.2
  clear hcx
  generalize strOfNums r = sr at hs1 hs2
  go_upto_region 8 with (first | (go_at_call 19; (with_reducible refine (kept_calls g1 k1 A0 c0 X _ ?s1 ?s2 ?s3 ?s4 ?s5).mono ?_); (case s1 => exact LK1.out); (case s2 => exact LB1'.out.below HBL.out); (case s3 => exact HCN.out.r0); (case s4 => exact HCN.out.l0); (case s5 => exact LX.out); rintro e_ w' ⟨rfl, ⟨n7, rfl⟩⟩) | (go_at_call 19; (with_reducible refine (kept_calls g2 k2 A5 c5 L _ ?s1 ?s2 ?s3 ?s4 ?s5).mono ?_); (case s1 => exact LK2.out); (case s2 => exact ((LB2.out.below HBL.out).below (pw_below_drewN (Below.refl _ _) n7))); (case s3 => exact (Kd.C_drewN HCN.out.r5 n7)); (case s4 => exact HCN.out.l5); (case s5 => exact LL.out); rintro e_ w' ⟨rfl, ⟨n8, rfl⟩⟩))
  clear b0 b1 b2 b3 b4 b5
  clear hs1 hs2 HCN
  have hbd := pw_below_drewN (Below.refl w6.heap.size w6) (n7 + n8)
  have HBL2 := Aside0.mk (below_then HBL.out HBL.out.size hbd)
  have HO4' := Aside0.mk (ownAt_step HO4.out (fun k_ hk => hbd.block k_ (Nat.lt_of_lt_of_le (HQ46.out k_ hk) HBW.out.size)))
  have HV7 := Aside0.mk (Kd.R_drewN HV6.out (n7 + n8))
  clear HBL HO4 HV6 HBW hbd
  generalize w6.drewN (n7 + n8) = w7 at HBL2 HO4' HV7 ⊢
  go_upto_region 9 with (go_at_call 20; (with_reducible refine (spoil_calls q4 _ r _ ?s1).mono ?_); (case s1 => exact HO4'.out); rintro e_ w8 ⟨rfl, hg⟩; have HG := Aside0.mk hg; clear hg)
  have HBL := Aside0.mk (HBL2.out.grown HG.out HBL2.out.size (fun k_ hk => HQL4.out k_ hk))
  have HV8 := Aside0.mk (R_keep HV7.out (fun k_ hk hl => HG.out.block k_ hl (fun e => by have := HQ46.out k_ e.symm; omega)))
  have HCN := Aside0.mk (caseAt_below HC3.out HBL.out)
  obtain ⟨b0, b1, b2, b3, b4, b5⟩ := caseAt_cells HCN.out
  go_wp2_with (first | (go_at_call 19; (with_reducible refine (kept_calls g1 k1 A0 c0 X _ ?s1 ?s2 ?s3 ?s4 ?s5).mono ?_); (case s1 => exact LK1.out); (case s2 => exact LB1'.out.below HBL.out); (case s3 => exact HCN.out.r0); (case s4 => exact HCN.out.l0); (case s5 => exact LX.out); rintro e_ w' ⟨rfl, ⟨n7, rfl⟩⟩) | (go_at_call 19; (with_reducible refine (kept_calls g2 k2 A5 c5 L _ ?s1 ?s2 ?s3 ?s4 ?s5).mono ?_); (case s1 => exact LK2.out); (case s2 => exact ((LB2.out.below HBL.out).below (pw_below_drewN (Below.refl _ _) n7))); (case s3 => exact (Kd.C_drewN HCN.out.r5 n7)); (case s4 => exact HCN.out.l5); (case s5 => exact LL.out); rintro e_ w' ⟨rfl, ⟨n8, rfl⟩⟩) | (go_at_call 14; refine (slabvaultlaw13_lives.calls true _ rfl).mono ?_; rintro e_ w9 ⟨rfl, hb⟩; have HBE := Aside0.mk (below_step (pw_below_drewN (below_step HB3.out HBL.out) (n7 + n8)) hb); clear hb))
  go_ret
  exact ⟨rfl, HBE.out⟩
end
end Go.Proofs.Ytjbjofmcmjojlab.Wk
end
section
namespace Go.Proofs.Ytjbjofmcmjojlab.Wk
open Go.RowKit Go.Proofs.YtjbjofmcmjojlabW.PrintWords Go.Proofs.YtjbjofmcmjojlabW.PrintLast Go.Proofs.YtjbjofmcmjojlabW.PrintMore
attribute [local go_sem] max2_int min2_int max_two min_two max_three min_three max_four min_four
set_option linter.unusedVariables false
set_option linter.unusedSimpArgs false
def slabvaultlaw13_ints.l0 : Nat → List Int → List Int → Int → Option (Bool)
  | 0, _, _, _ => none
  | k + 1, x0, x1, x5 => if x5 < (x0.length : Int) then (if 0 ≤ x5 then (if x5 < (x1.length : Int) then (if (rd x0 x5) = (rd x1 x5) then (slabvaultlaw13_ints.l0 k x0 x1 (wrap64 (x5 + 1))) else (some false)) else (none)) else (none)) else (some true)
def slabvaultlaw13_ints.f (k : Nat) (l0 : List Int) (l1 : List Int) : Option (Bool) := if (l0.length : Int) = (l1.length : Int) then (slabvaultlaw13_ints.l0 k l0 l1 0) else (some false)
end Go.Proofs.Ytjbjofmcmjojlab.Wk
end
section
namespace Go.Proofs.Ytjbjofmcmjojlab.Wk
open Go.RowKit Go.Proofs.YtjbjofmcmjojlabW.PrintWords Go.Proofs.YtjbjofmcmjojlabW.PrintLast Go.Proofs.YtjbjofmcmjojlabW.PrintMore
attribute [local go_sem] max2_int min2_int max_two min_two max_three min_three max_four min_four
set_option linter.unusedVariables false
set_option linter.unusedSimpArgs false
def slabvaultref13_Clip.l0 : Nat → List Int → List Int → List Int → List Int → List Int → Int → Option (List Int × List Int × Int)
  | 0, _, _, _, _, _, _ => none
  | k + 1, x0, x1, x2, x10, x11, x12 => if x12 < (x0.length : Int) then (if 0 ≤ x12 then (if x12 < (x2.length : Int) then (if (rd x2 x12) ≤ (rd x0 x12) then (if x12 < (x1.length : Int) then (if (wrap64 ((rd x2 x12) * (rd x1 x12))) < (rd x0 x12) then (if x10.length < 17592186044416 then (if x11.length < 17592186044416 then (slabvaultref13_Clip.l0 k x0 x1 x2 (x10 ++ [wrap64 ((rd x2 x12) * (rd x1 x12))]) (x11 ++ [mn (rd x1 x12) (wrap64 ((rd x0 x12) - (wrap64 ((rd x2 x12) * (rd x1 x12)))))]) (wrap64 (x12 + 1))) else (none)) else (none)) else (if x10.length < 17592186044416 then (if x11.length < 17592186044416 then (slabvaultref13_Clip.l0 k x0 x1 x2 (x10 ++ [rd x0 x12]) (x11 ++ [mn (rd x1 x12) (wrap64 ((rd x0 x12) - (rd x0 x12)))]) (wrap64 (x12 + 1))) else (none)) else (none))) else (none)) else (if x10.length < 17592186044416 then (if x12 < (x1.length : Int) then (if x11.length < 17592186044416 then (slabvaultref13_Clip.l0 k x0 x1 x2 (x10 ++ [rd x0 x12]) (x11 ++ [mn (rd x1 x12) (wrap64 ((rd x0 x12) - (rd x0 x12)))]) (wrap64 (x12 + 1))) else (none)) else (none)) else (none))) else (none)) else (none)) else (some (x10, x11, 0))
def slabvaultref13_Clip.f (k : Nat) (l0 : List Int) (l1 : List Int) (l2 : List Int) : Option (List Int × List Int × Int) := (slabvaultref13_Fit.f k l0 l1).bind fun t188 => (if t188 = 0 then ((slabvaultref13_right.f k l2 (l0.length : Int)).bind fun t189 => (if t189 = true then (slabvaultref13_Clip.l0 k l0 l1 l2 ([] : List Int) ([] : List Int) 0) else (some (([] : List Int), ([] : List Int), 2)))) else (some (([] : List Int), ([] : List Int), t188)))
def slabvaultref13_Clip.T11 : Bool × List (List Nat × List Nat) := (true, [([], []), ([], []), ([0, 1], [0, 1]), ([2], [2]), ([], []), ([], []), ([4, 5], [4, 5]), ([6], [6]), ([3, 7], [3, 7]), ([8], [8]), ([9], [9]), ([9], [9]), ([10, 11, 9], [9, 10, 11]), ([12, 9], [9, 12]), ([9], [9]), ([9], [9]), ([14, 15, 9], [9, 14, 15]), ([16, 9], [9, 16]), ([13, 17, 9], [9, 13, 17]), ([9], [9]), ([9], [9]), ([19, 20, 9], [9, 19, 20]), ([21, 9], [9, 21]), ([18, 22, 9], [9, 18, 22]), ([9, 23], [9, 23])])
def slabvaultref13_Clip.B11 : List Nat := [0, 0, 3, 7, 0, 0, 48, 112, 255, 511, 1023, 1023, 4095, 8191, 1023, 1023, 50175, 115711, 262143, 1023, 1023, 1573887, 3671039, 8388607, 16777215]
def slabvaultref13_Clip.T12 : Bool × List (List Nat × List Nat) := (true, [([], []), ([], []), ([0, 1], [0, 1]), ([2], [2]), ([], []), ([], []), ([4, 5], [4, 5]), ([6], [6]), ([3, 7], [3, 7]), ([8, 0, 1, 2, 3, 4, 5, 6, 7, 8], [8])])
def slabvaultref13_Clip.B12 : List Nat := [0, 0, 3, 7, 0, 0, 48, 112, 255, 511]
def slabvaultref13_Clip.T14 : Bool × List (List Nat × List Nat) := (true, [([], []), ([], []), ([], []), ([1, 2], [1, 2]), ([3], [3]), ([], []), ([], []), ([5, 6], [5, 6]), ([7], [7]), ([], []), ([8, 9], [8, 9]), ([4, 10], [4, 10]), ([11], [11]), ([0, 12], [0, 12]), ([13, 13, 0, 1, 2, 3, 4, 5, 6, 7, 8, 9, 10, 11, 12, 13], [0, 13])])
def slabvaultref13_Clip.B14 : List Nat := [0, 0, 0, 6, 14, 0, 0, 96, 224, 0, 992, 2046, 4094, 8191, 16383]
end Go.Proofs.Ytjbjofmcmjojlab.Wk
end
section
namespace Go.Proofs.Ytjbjofmcmjojlab.Wk
open Go.RowKit Go.Proofs.YtjbjofmcmjojlabW.PrintWords Go.Proofs.YtjbjofmcmjojlabW.PrintLast Go.Proofs.YtjbjofmcmjojlabW.PrintMore
attribute [local go_sem] max2_int min2_int max_two min_two max_three min_three max_four min_four
set_option linter.unusedVariables false
set_option linter.unusedSimpArgs false
def slabvaultlaw13_GridClips.f (k : Nat) (l0 : List Int) (l1 : List Int) (l2 : List Int) : Option (Bool) := (grid_Clip.f k l0 l1 l2).bind fun bt222 => ((slabvaultref13_Clip.f k l0 l1 l2).bind fun bt229 => ((slabvaultlaw13_ints.f k bt222.1 bt229.1).bind fun t236 => (if t236 = true then ((slabvaultlaw13_ints.f k bt222.2.1 bt229.2.1).bind fun t237 => (if t237 = true then (if bt222.2.2 = bt229.2.2 then ((slabvaultlaw13_lives.f).bind fun t238 => (some t238)) else (none)) else (none))) else (none))))
def slabvaultlaw13_GridClips.Pure : Prop := ∀ (l0 : List Int) (l1 : List Int) (l2 : List Int), l0.length ≤ maxLen → l0.length * 8 ≤ 140737488351232 → (∀ x ∈ l0, (Lit.int .i64 x).wf = true) → l1.length ≤ maxLen → l1.length * 8 ≤ 140737488351232 → (∀ x ∈ l1, (Lit.int .i64 x).wf = true) → l2.length ≤ maxLen → l2.length * 8 ≤ 140737488351232 → (∀ x ∈ l2, (Lit.int .i64 x).wf = true) → ∃ k, slabvaultlaw13_GridClips.f k l0 l1 l2 = some true
end Go.Proofs.Ytjbjofmcmjojlab.Wk
end
section
namespace Go.Proofs.Ytjbjofmcmjojlab.Pure
open Go.RowKit Go.Proofs.Ytjbjofmcmjojlab.Wk Go.Proofs.YtjbjofmcmjojlabW.PrintWords Go.Proofs.YtjbjofmcmjojlabW.PrintLast Go.Proofs.YtjbjofmcmjojlabW.PrintMore
theorem wrap_up {i : Nat} {n : Nat} (h : i < n) (hn : n ≤ 9223372036854775807) : wrap64 ((i : Int) + 1) = ((i + 1 : Nat) : Int) := by unfold wrap64; omega
theorem rd_nat (l : List Int) (i : Nat) (h : i < l.length) : rd l (i : Int) = l[i] := by simp [rd, h]
def elemsT (l0 : List Int) : Int × Int := if 4 < l0.length ∨ l0.any badDim = true then (0, 2) else if l0.contains 0 = true then (0, 0) else prodLoop l0 l0.length 0 1
theorem elements_eq (l : List Int) : space_Elements.f l = some (elemsT l) := rfl
theorem ref_l2 (l : List Int) (hm : l.length ≤ 9223372036854775807) (hb : l.any badDim = false) : ∀ (d i : Nat) (n : Int), l.length - i = d → i ≤ l.length → 0 ≤ n → n ≤ 1048576 →
    Ev (fun k => slabvaultref12_Elements.l2 k l n i) (prodLoop l d i n) := by
  intro d
  induction d with
  | zero =>
    intro i n h hi _ _
    refine Ev.step (f := fun _ => some (n, 0)) (fun k => ?_) (Ev.now _)
    simp only [slabvaultref12_Elements.l2]
    rw [if_neg (by omega)]
  | succ d ih =>
    intro i n h hi h0 h1
    have hlt : i < l.length := by omega
    have hg := good_rd hb i hlt
    have hy1 : 0 ≤ n * rd l i := Int.mul_nonneg h0 hg.1
    have hy2 : n * rd l i ≤ 1048576 * 1048576 := Int.mul_le_mul h1 hg.2 hg.1 (by omega)
    have hw : wrap64 (n * rd l i) = n * rd l i := by unfold wrap64; omega
    by_cases hbig : n * rd l i > 1048576
    · refine Ev.step (f := fun _ => some (0, 3)) (fun k => ?_) (by rw [prodLoop, if_pos hbig]; exact Ev.now _)
      simp only [slabvaultref12_Elements.l2]
      rw [if_pos (by omega), if_pos (by omega), hw, if_pos hbig]
    · refine Ev.step (f := fun k => slabvaultref12_Elements.l2 k l (n * rd l i) ((i + 1 : Nat) : Int)) (fun k => ?_) (by rw [prodLoop, if_neg hbig]; exact ih (i + 1) _ (by omega) (by omega) hy1 (by omega))
      simp only [slabvaultref12_Elements.l2]
      rw [if_pos (by omega), if_pos (by omega), hw, if_neg hbig, wrap_up hlt hm]
theorem ref_l1 (l : List Int) (hm : l.length ≤ 9223372036854775807) (hb : l.any badDim = false) : ∀ (d i : Nat), l.length - i = d → i ≤ l.length →
    Ev (fun k => slabvaultref12_Elements.l1 k l 1 i) (if (l.drop i).contains 0 = true then (0, 0) else prodLoop l l.length 0 1) := by
  intro d
  induction d with
  | zero =>
    intro i h hi
    rw [List.drop_eq_nil_of_le (by omega)]
    refine Ev.step (f := fun k => slabvaultref12_Elements.l2 k l 1 0) (fun k => ?_) (ref_l2 l hm hb l.length 0 1 (by omega) (by omega) (by omega) (by omega))
    simp only [slabvaultref12_Elements.l1]
    rw [if_neg (by omega)]
  | succ d ih =>
    intro i h hi
    have hlt : i < l.length := by omega
    rw [List.drop_eq_getElem_cons hlt, List.contains_cons]
    have e := rd_nat l i hlt
    by_cases hz : rd l i = 0
    · refine Ev.step (f := fun _ => some (0, 0)) (fun k => ?_) (by rw [e] at hz; rw [hz]; exact Ev.now _)
      simp only [slabvaultref12_Elements.l1]
      rw [if_pos (by omega), if_pos (by omega), if_pos hz]
    · refine Ev.step (f := fun k => slabvaultref12_Elements.l1 k l 1 ((i + 1 : Nat) : Int)) (fun k => ?_) (by
        have : (0 == l[i]) = false := by
          rw [e] at hz
          exact beq_eq_false_iff_ne.2 (fun h0 => hz h0.symm)
        rw [this, Bool.false_or]
        exact ih (i + 1) (by omega) (by omega))
      simp only [slabvaultref12_Elements.l1]
      rw [if_pos (by omega), if_pos (by omega), if_neg hz, wrap_up hlt hm]
theorem ref_l0 (l : List Int) (hm : l.length ≤ 9223372036854775807) : ∀ (d i : Nat), l.length - i = d → i ≤ l.length → (l.take i).any badDim = false →
    Ev (fun k => slabvaultref12_Elements.l0 k l 1 i) (if (l.drop i).any badDim = true then (0, 2) else if l.contains 0 = true then (0, 0) else prodLoop l l.length 0 1) := by
  intro d
  induction d with
  | zero =>
    intro i h hi hb
    rw [List.drop_eq_nil_of_le (by omega)]
    rw [List.take_of_length_le (by omega)] at hb
    refine Ev.step (f := fun k => slabvaultref12_Elements.l1 k l 1 0) (fun k => ?_) (by
      have := ref_l1 l hm hb l.length 0 (by omega) (by omega)
      rw [List.drop_zero] at this
      rw [if_neg (by simp)]
      exact this)
    simp only [slabvaultref12_Elements.l0]
    rw [if_neg (by omega)]
  | succ d ih =>
    intro i h hi hb
    have hlt : i < l.length := by omega
    have e := rd_nat l i hlt
    rw [List.drop_eq_getElem_cons hlt, List.any_cons]
    by_cases h1 : rd l i < 0
    · refine Ev.step (f := fun _ => some (0, 2)) (fun k => ?_) (by
        have : badDim l[i] = true := by rw [e] at h1; simp [badDim, h1]
        rw [this]; exact Ev.now _)
      simp only [slabvaultref12_Elements.l0]
      rw [if_pos (by omega), if_pos (by omega), if_pos h1]
    · by_cases h2 : rd l i > 1048576
      · refine Ev.step (f := fun _ => some (0, 2)) (fun k => ?_) (by
          have : badDim l[i] = true := by rw [e] at h2; simp [badDim]; omega
          rw [this]; exact Ev.now _)
        simp only [slabvaultref12_Elements.l0]
        rw [if_pos (by omega), if_pos (by omega), if_neg h1, if_pos h2]
      · have hg : badDim l[i] = false := by rw [e] at h1 h2; simp [badDim]; omega
        refine Ev.step (f := fun k => slabvaultref12_Elements.l0 k l 1 ((i + 1 : Nat) : Int)) (fun k => ?_) (by
          rw [hg, Bool.false_or]
          exact ih (i + 1) (by omega) (by omega) (by rw [List.take_succ_eq_append_getElem hlt, List.any_append, hb]; simp [hg]))
        simp only [slabvaultref12_Elements.l0]
        rw [if_pos (by omega), if_pos (by omega), if_neg h1, if_neg h2, wrap_up hlt hm]
theorem refElements_ev (l : List Int) (hm : l.length ≤ 9223372036854775807) : Ev (fun k => slabvaultref12_Elements.f k l) (elemsT l) := by
  unfold elemsT
  by_cases h4 : 4 < l.length
  · rw [if_pos (.inl h4)]
    refine Ev.congr (f := fun _ => some (0, 2)) (fun k => ?_) (Ev.now _)
    unfold slabvaultref12_Elements.f
    rw [if_pos (by omega)]
  · refine Ev.congr (f := fun k => slabvaultref12_Elements.l0 k l 1 0) (fun k => ?_) ?_
    · unfold slabvaultref12_Elements.f
      rw [if_neg (by omega)]
    · have := ref_l0 l hm l.length 0 (by omega) (by omega) (by simp)
      simpa [h4] using this
def fitT (D H : List Int) : Int := if (elemsT D).2 = 0 then (if H.length = D.length then (if H.any badShape = true then 2 else (elemsT H).2) else 2) else (elemsT D).2
theorem fit_eq (D H : List Int) (h : H.length ≤ maxLen) : grid_fit.f D H = some (fitT D H) := by
  unfold grid_fit.f fitT
  rw [elements_eq, elements_eq]
  simp only [Option.bind_some]
  split <;> (try rfl)
  split <;> (try rfl)
  first | rw [if_pos h] | skip
  split <;> rfl
theorem refFit_l0 (H : List Int) (hm : H.length ≤ 9223372036854775807) : ∀ (d i : Nat), H.length - i = d → i ≤ H.length → Ev (fun k => slabvaultref13_Fit.l0 k H i) (if (H.drop i).any badShape = true then 2 else (elemsT H).2) := by
  intro d
  induction d with
  | zero =>
    intro i h hi
    rw [List.drop_eq_nil_of_le (by omega)]
    refine Ev.step (f := fun k => (slabvaultref12_Elements.f k H).bind fun b => some b.2) (fun k => ?_) ?_
    · simp only [slabvaultref13_Fit.l0]
      rw [if_neg (by omega)]
    · rw [if_neg (by simp)]
      exact Ev.bind (refElements_ev H hm) (Ev.now _)
  | succ d ih =>
    intro i h hi
    have hlt : i < H.length := by omega
    have e := rd_nat H i hlt
    rw [List.drop_eq_getElem_cons hlt, List.any_cons]
    by_cases h1 : rd H i < 1
    · refine Ev.step (f := fun _ => some 2) (fun k => ?_) (by
        have : badShape H[i] = true := by rw [e] at h1; simp [badShape, h1]
        rw [this, Bool.true_or, if_pos rfl]; exact Ev.now _)
      simp only [slabvaultref13_Fit.l0]
      rw [if_pos (by omega), if_pos (by omega), if_pos h1]
    · by_cases h2 : rd H i > 1048576
      · refine Ev.step (f := fun _ => some 2) (fun k => ?_) (by
          have : badShape H[i] = true := by rw [e] at h2; simp [badShape]; omega
          rw [this, Bool.true_or, if_pos rfl]; exact Ev.now _)
        simp only [slabvaultref13_Fit.l0]
        rw [if_pos (by omega), if_pos (by omega), if_neg h1, if_pos h2]
      · refine Ev.step (f := fun k => slabvaultref13_Fit.l0 k H ((i + 1 : Nat) : Int)) (fun k => ?_) (by
          have : badShape H[i] = false := by rw [e] at h1 h2; simp [badShape]; omega
          rw [this, Bool.false_or]
          exact ih (i + 1) (by omega) (by omega))
        simp only [slabvaultref13_Fit.l0]
        rw [if_pos (by omega), if_pos (by omega), if_neg h1, if_neg h2, wrap_up hlt hm]
theorem refFit_ev (D H : List Int) (hD : D.length ≤ 9223372036854775807) (hH : H.length ≤ 9223372036854775807) : Ev (fun k => slabvaultref13_Fit.f k D H) (fitT D H) := by
  unfold slabvaultref13_Fit.f fitT
  refine Ev.bind (refElements_ev D hD) ?_
  by_cases h0 : (elemsT D).2 = 0
  · simp only [if_pos h0]
    by_cases hl : H.length = D.length
    · have hl' : (H.length : Int) = (D.length : Int) := by omega
      simp only [if_pos hl, if_pos hl']
      have := refFit_l0 H hH H.length 0 (by omega) (by omega)
      simpa using this
    · have hl' : ¬ (H.length : Int) = (D.length : Int) := by omega
      simp only [if_neg hl, if_neg hl']
      exact Ev.now _
  · simp only [if_neg h0]
    exact Ev.now _
def rightT (c : List Int) (n : Nat) : Bool := decide (c.length = n) && !c.any negCoord
theorem right_eq (c : List Int) (n : Nat) (h : c.length ≤ maxLen) : grid_right.f c (n : Int) = some (rightT c n) := by
  unfold grid_right.f rightT
  rw [if_pos h]
  have : decide ((c.length : Int) = (n : Int)) = decide (c.length = n) := by
    rw [decide_eq_decide]; omega
  rw [this]
theorem refRight_l0 (c : List Int) (hm : c.length ≤ 9223372036854775807) : ∀ (d i : Nat), c.length - i = d → i ≤ c.length → Ev (fun k => slabvaultref13_right.l0 k c (c.length : Int) i) (!(c.drop i).any negCoord) := by
  intro d
  induction d with
  | zero =>
    intro i h hi
    rw [List.drop_eq_nil_of_le (by omega)]
    refine Ev.step (f := fun _ => some true) (fun k => ?_) (Ev.now _)
    simp only [slabvaultref13_right.l0]
    rw [if_neg (by omega)]
  | succ d ih =>
    intro i h hi
    have hlt : i < c.length := by omega
    have e := rd_nat c i hlt
    rw [List.drop_eq_getElem_cons hlt, List.any_cons]
    by_cases h1 : rd c i < 0
    · refine Ev.step (f := fun _ => some false) (fun k => ?_) (by
        have : negCoord c[i] = true := by rw [e] at h1; simp [negCoord, h1]
        rw [this]; exact Ev.now _)
      simp only [slabvaultref13_right.l0]
      rw [if_pos (by omega), if_pos (by omega), if_pos (by omega), if_pos h1]
    · refine Ev.step (f := fun k => slabvaultref13_right.l0 k c (c.length : Int) ((i + 1 : Nat) : Int)) (fun k => ?_) (by
        have : negCoord c[i] = false := by rw [e] at h1; simp [negCoord]; omega
        rw [this, Bool.false_or]
        exact ih (i + 1) (by omega) (by omega))
      simp only [slabvaultref13_right.l0]
      rw [if_pos (by omega), if_pos (by omega), if_pos (by omega), if_neg h1, wrap_up hlt hm]
theorem refRight_ev (c : List Int) (n : Nat) (hm : c.length ≤ 9223372036854775807) : Ev (fun k => slabvaultref13_right.f k c (n : Int)) (rightT c n) := by
  unfold slabvaultref13_right.f rightT
  by_cases hl : c.length = n
  · subst hl
    simp only [if_true, decide_true, Bool.true_and]
    have := refRight_l0 c hm c.length 0 (by omega) (by omega)
    simpa using this
  · have hl' : ¬ (c.length : Int) = (n : Int) := by omega
    simp only [if_neg hl', hl, decide_false, Bool.false_and]
    exact Ev.now _
structure Good (D H : List Int) : Prop where
  len : D.length ≤ 4
  same : H.length = D.length
  dims : ∀ i : Nat, i < D.length → 0 ≤ rd D i ∧ rd D i ≤ 1048576
  shape : ∀ i : Nat, i < D.length → 1 ≤ rd H i ∧ rd H i ≤ 1048576
theorem good_of_fit {D H : List Int} (h : fitT D H = 0) : Good D H := by
  unfold fitT at h
  split at h
  case isFalse => contradiction
  case isTrue h0 =>
  split at h
  case isFalse => cases h
  case isTrue hl =>
  split at h
  case isTrue => cases h
  case isFalse hs =>
  have hs : H.any badShape = false := by simpa using hs
  unfold elemsT at h0
  split at h0
  case isTrue => cases h0
  case isFalse hd =>
  have hd1 : D.length ≤ 4 := by
    rcases Nat.lt_or_ge 4 D.length with h4 | h4
    · exact absurd (.inl h4) hd
    · exact h4
  have hd2 : D.any badDim = false := by
    cases hb : D.any badDim
    · rfl
    · exact absurd (.inr hb) hd
  refine ⟨hd1, hl, fun i hi => good_rd hd2 i hi, fun i hi => ?_⟩
  have hi2 : i < H.length := by omega
  rw [rd_nat H i hi2]
  have := List.any_eq_false.1 hs _ (List.getElem_mem hi2)
  simp [badShape] at this
  omega
def clipAt (D H c : Int) : Int := if c * H < D then c * H else D
def clipS (D H c : List Int) (i : Nat) : List Int := (List.range' i (D.length - i)).map fun (d : Nat) => clipAt (rd D d) (rd H d) (rd c d)
def clipP (D H c : List Int) (i : Nat) : List Int := (List.range' i (D.length - i)).map fun (d : Nat) => mn (rd H d) (rd D d - clipAt (rd D d) (rd H d) (rd c d))
theorem clipAt_le {D H c : Int} (hD : 0 ≤ D) (hH : 1 ≤ H) (hc : 0 ≤ c) : 0 ≤ clipAt D H c ∧ clipAt D H c ≤ D := by
  unfold clipAt
  have : 0 ≤ c * H := Int.mul_nonneg hc (by omega)
  split <;> omega
theorem range'_step {i n : Nat} (h : i < n) : List.range' i (n - i) = i :: List.range' (i + 1) (n - (i + 1)) := by
  rw [show n - i = (n - (i + 1)) + 1 by omega, List.range'_succ]
theorem quot_in {D H c : Int} (hD : 0 ≤ D ∧ D ≤ 1048576) (hH : 1 ≤ H ∧ H ≤ 1048576) (hc : 0 ≤ c) : wrap64 (Int.tdiv D H) = D / H := by
  rw [Int.tdiv_eq_ediv_of_nonneg hD.1]
  have h1 : 0 ≤ D / H := Int.ediv_nonneg hD.1 (by omega)
  have h2 : D / H ≤ D := Int.ediv_le_self _ hD.1
  unfold wrap64; omega
theorem clip_step {D H c : Int} (hD : 0 ≤ D ∧ D ≤ 1048576) (hH : 1 ≤ H ∧ H ≤ 1048576) (hc : 0 ≤ c) (h : c ≤ D / H) : mn (wrap64 (c * H)) D = clipAt D H c := by
  have h1 : c * H ≤ D := Int.le_trans (Int.mul_le_mul_of_nonneg_right h (by omega)) (Int.ediv_mul_le D (by omega))
  have h2 : 0 ≤ c * H := Int.mul_nonneg hc (by omega)
  rw [show wrap64 (c * H) = c * H by unfold wrap64; omega]
  unfold mn clipAt
  split <;> split <;> omega
theorem clip_over {D H c : Int} (hD : 0 ≤ D ∧ D ≤ 1048576) (hH : 1 ≤ H ∧ H ≤ 1048576) (h : ¬ c ≤ D / H) : clipAt D H c = D := by
  have h1 : D < c * H := Int.lt_mul_of_ediv_lt (by omega) (by omega)
  unfold clipAt
  rw [if_neg (by omega)]
theorem clip_l0 (D H c : List Int) (hg : Good D H) (hl : c.length = D.length) (hc : ∀ i : Nat, i < c.length → 0 ≤ rd c i) : ∀ (d i : Nat) (x y : List Int), D.length - i = d → i ≤ D.length → x.length ≤ i → y.length ≤ i →
    Ev (fun k => grid_Clip.l0 k D H x y c (c.length : Int) i) (x ++ clipS D H c i, y ++ clipP D H c i, 0) := by
  have h4 := hg.len
  have hs := hg.same
  intro d
  induction d with
  | zero =>
    intro i x y h hi hx hy
    refine Ev.step (f := fun _ => some (x, y, 0)) (fun k => ?_) ?_
    · simp only [grid_Clip.l0]
      rw [if_neg (by omega)]
    · simp only [clipS, clipP, show D.length - i = 0 by omega, List.range'_zero, List.map_nil, List.append_nil]
      exact Ev.now _
  | succ d ih =>
    intro i x y h hi hx hy
    have hlt : i < D.length := by omega
    have hD := hg.dims i hlt
    have hH := hg.shape i hlt
    have hC := hc i (by omega)
    have hq := quot_in hD hH hC
    have hle := clipAt_le hD.1 hH.1 hC
    have hS : clipS D H c i = clipAt (rd D i) (rd H i) (rd c i) :: clipS D H c (i + 1) := by simp only [clipS, range'_step hlt, List.map_cons]
    have hP : clipP D H c i = mn (rd H i) (rd D i - clipAt (rd D i) (rd H i) (rd c i)) :: clipP D H c (i + 1) := by simp only [clipP, range'_step hlt, List.map_cons]
    refine Ev.step (f := fun k => grid_Clip.l0 k D H (x ++ [clipAt (rd D i) (rd H i) (rd c i)]) (y ++ [mn (rd H i) (rd D i - clipAt (rd D i) (rd H i) (rd c i))]) c (c.length : Int) ((i + 1 : Nat) : Int)) (fun k => ?_) ?_
    · simp only [grid_Clip.l0]
      have hw : wrap64 (rd D i - clipAt (rd D i) (rd H i) (rd c i)) = rd D i - clipAt (rd D i) (rd H i) (rd c i) := by unfold wrap64; omega
      rw [if_pos (by omega), if_pos (by omega), if_pos (by omega), if_pos (by omega), if_pos (by omega), if_neg (by omega), hq, wrap_up hlt (by omega)]
      by_cases hle2 : rd c i ≤ rd D i / rd H i
      · rw [if_pos hle2, if_pos (by omega), if_pos (by omega), clip_step hD hH hC hle2, hw]
      · rw [if_neg hle2, if_pos (by omega), if_pos (by omega)]
        have ho := clip_over hD hH hle2
        rw [ho] at hw ⊢
        rw [hw]
    · rw [hS, hP]
      have := ih (i + 1) (x ++ [clipAt (rd D i) (rd H i) (rd c i)]) (y ++ [mn (rd H i) (rd D i - clipAt (rd D i) (rd H i) (rd c i))]) (by omega) (by omega) (by simp; omega) (by simp; omega)
      simpa only [List.append_assoc, List.singleton_append] using this
def clipT (D H c : List Int) : List Int × List Int × Int := if fitT D H = 0 then (if rightT c D.length = true then (clipS D H c 0, clipP D H c 0, 0) else ([], [], 2)) else ([], [], fitT D H)
theorem right_of {c : List Int} {n : Nat} (h : rightT c n = true) : c.length = n ∧ ∀ i : Nat, i < c.length → 0 ≤ rd c i := by
  simp only [rightT, Bool.and_eq_true, decide_eq_true_eq, Bool.not_eq_true'] at h
  refine ⟨h.1, fun i hi => ?_⟩
  have := List.any_eq_false.1 h.2 _ (List.getElem_mem hi)
  rw [rd_nat c i hi]
  simp [negCoord] at this
  exact this
theorem clip_ev (D H c : List Int) (hH : H.length ≤ maxLen) (hc : c.length ≤ maxLen) : Ev (fun k => grid_Clip.f k D H c) (clipT D H c) := by
  unfold grid_Clip.f clipT
  rw [fit_eq D H hH, right_eq c D.length hc]
  simp only [Option.bind_some]
  by_cases h0 : fitT D H = 0
  · simp only [if_pos h0]
    by_cases h1 : rightT c D.length = true
    · simp only [if_pos h1]
      have hr := right_of h1
      have := clip_l0 D H c (good_of_fit h0) hr.1 hr.2 D.length 0 [] [] (by omega) (by omega) (by simp) (by simp)
      simpa using this
    · simp only [if_neg h1]
      exact Ev.now _
  · simp only [if_neg h0]
    exact Ev.now _
end Go.Proofs.Ytjbjofmcmjojlab.Pure
end
section
namespace Go.Proofs.Ytjbjofmcmjojlab.Wk
open Go.RowKit Go.Proofs.YtjbjofmcmjojlabW.PrintWords Go.Proofs.YtjbjofmcmjojlabW.PrintLast Go.Proofs.YtjbjofmcmjojlabW.PrintMore
attribute [local go_sem] max2_int min2_int max_two min_two max_three min_three max_four min_four
set_option linter.unusedVariables false
set_option linter.unusedSimpArgs false
def slabvaultref13_Chunks.l0 : Nat → List Int → List Int → Int → Int → Option (Int × Int)
  | 0, _, _, _, _ => none
  | k + 1, x0, x1, x7, x8 => if x8 < (x0.length : Int) then (if 0 ≤ x8 then (if x8 < (x1.length : Int) then (if (rd x1 x8) = 0 then (none) else (slabvaultref13_Chunks.l0 k x0 x1 (wrap64 (x7 * (wrap64 (Int.tdiv (wrap64 ((wrap64 ((rd x0 x8) + (rd x1 x8))) - 1)) (rd x1 x8))))) (wrap64 (x8 + 1)))) else (none)) else (none)) else (some (x7, 0))
def slabvaultref13_Chunks.f (k : Nat) (l0 : List Int) (l1 : List Int) : Option (Int × Int) := (slabvaultref13_Fit.f k l0 l1).bind fun t149 => (if t149 = 0 then (slabvaultref13_Chunks.l0 k l0 l1 1 0) else (some (0, t149)))
end Go.Proofs.Ytjbjofmcmjojlab.Wk
end
section
namespace Go.Proofs.Ytjbjofmcmjojlab.Wk
open Go.RowKit Go.Proofs.YtjbjofmcmjojlabW.PrintWords Go.Proofs.YtjbjofmcmjojlabW.PrintLast Go.Proofs.YtjbjofmcmjojlabW.PrintMore
attribute [local go_sem] max2_int min2_int max_two min_two max_three min_three max_four min_four
set_option linter.unusedVariables false
set_option linter.unusedSimpArgs false
section
def ofLoop (A S : List Int) : Nat → Nat → List Int → List Int → List Int × List Int × Int
  | 0, _, x, y => (x, y, 0)
  | d + 1, i, x, y => if rd A i < 0 ∨ rd S i < 1 ∨ 1048576 < rd S i then ([], [], 2) else ofLoop A S d (i + 1) (x ++ [rd A i / rd S i]) (y ++ [rd A i % rd S i])
def grid_Of.f (l0 : List Int) (l1 : List Int) : Option (List Int × List Int × Int) :=
  if (∀ x ∈ l0, x ≤ 9223372036854775807) ∧ l0.length ≤ 9223372036854775807 ∧ l1.length ≤ 9223372036854775807 then some (if 4 < l0.length ∨ l0.length ≠ l1.length then ([], [], 2) else ofLoop l0 l1 l0.length 0 [] []) else none
end
end Go.Proofs.Ytjbjofmcmjojlab.Wk
end
section
namespace Go.Proofs.Ytjbjofmcmjojlab.Wk
open Go.RowKit Go.Proofs.YtjbjofmcmjojlabW.PrintWords Go.Proofs.YtjbjofmcmjojlabW.PrintLast Go.Proofs.YtjbjofmcmjojlabW.PrintMore
attribute [local go_sem] max2_int min2_int max_two min_two max_three min_three max_four min_four
set_option linter.unusedVariables false
set_option linter.unusedSimpArgs false
mutual
def slabvaultref13_Of.j0 : Nat → List Int → List Int → Bool → Option (List Int × List Int × Int)
  | 0, _, _, _ => none
  | k + 1, x0, x1, x19 => if x19 = true then (some (([] : List Int), ([] : List Int), 2)) else (slabvaultref13_Of.l0 k x0 x1 ([] : List Int) ([] : List Int) 0)
def slabvaultref13_Of.l0 : Nat → List Int → List Int → List Int → List Int → Int → Option (List Int × List Int × Int)
  | 0, _, _, _, _, _ => none
  | k + 1, x0, x1, x7, x8, x9 => if x9 < (x0.length : Int) then (if 0 ≤ x9 then (if (rd x0 x9) < 0 then (some (([] : List Int), ([] : List Int), 2)) else (if x9 < (x1.length : Int) then (if (rd x1 x9) < 1 then (some (([] : List Int), ([] : List Int), 2)) else (if (rd x1 x9) > 1048576 then (some (([] : List Int), ([] : List Int), 2)) else (if (rd x1 x9) = 0 then (none) else (if x7.length < 17592186044416 then (if x8.length < 17592186044416 then (slabvaultref13_Of.l0 k x0 x1 (x7 ++ [wrap64 (Int.tdiv (rd x0 x9) (rd x1 x9))]) (x8 ++ [Int.tmod (rd x0 x9) (rd x1 x9)]) (wrap64 (x9 + 1))) else (none)) else (none))))) else (none))) else (none)) else (some (x7, x8, 0))
end
def slabvaultref13_Of.f (k : Nat) (l0 : List Int) (l1 : List Int) : Option (List Int × List Int × Int) := if (l0.length : Int) > 4 then (slabvaultref13_Of.j0 k l0 l1 true) else (slabvaultref13_Of.j0 k l0 l1 ((l0.length : Int) != (l1.length : Int)))
def slabvaultref13_Of.T9 : Bool × List (List Nat × List Nat) := (true, [([], []), ([], []), ([], []), ([1, 2], [1, 2]), ([3], [3]), ([], []), ([], []), ([5, 6], [5, 6]), ([7], [7]), ([4, 8], [4, 8]), ([9], [9]), ([0, 10], [0, 10]), ([11, 11, 0, 1, 2, 3, 4, 5, 6, 7, 8, 9, 10, 11], [0, 11])])
def slabvaultref13_Of.B9 : List Nat := [0, 0, 0, 6, 14, 0, 0, 96, 224, 510, 1022, 2047, 4095]
def slabvaultref13_Of.T10 : Bool × List (List Nat × List Nat) := (true, [([], []), ([], []), ([], []), ([1, 2], [1, 2]), ([3], [3]), ([], []), ([], []), ([5, 6], [5, 6]), ([7], [7]), ([4, 8], [4, 8]), ([9], [9]), ([0, 10], [0, 10]), ([11, 11, 0, 1, 2, 3, 4, 5, 6, 7, 8, 9, 10, 11], [0, 11])])
def slabvaultref13_Of.B10 : List Nat := [0, 0, 0, 6, 14, 0, 0, 96, 224, 510, 1022, 2047, 4095]
end Go.Proofs.Ytjbjofmcmjojlab.Wk
end
section
namespace Go.Proofs.Ytjbjofmcmjojlab.Wk
open Go.RowKit Go.Proofs.YtjbjofmcmjojlabW.PrintWords Go.Proofs.YtjbjofmcmjojlabW.PrintLast Go.Proofs.YtjbjofmcmjojlabW.PrintMore
attribute [local go_sem] max2_int min2_int max_two min_two max_three min_three max_four min_four
set_option linter.unusedVariables false
set_option linter.unusedSimpArgs false
def slabvaultlaw13_GridCounts.f (k : Nat) (l0 : List Int) (l1 : List Int) (l2 : List Int) : Option (Bool) := (grid_Chunks.f k l0 l1).bind fun bt166 => ((slabvaultref13_Chunks.f k l0 l1).bind fun bt168 => ((grid_Of.f l2 l1).bind fun bt170 => ((slabvaultref13_Of.f k l2 l1).bind fun bt177 => (if bt166.1 = bt168.1 then (if bt166.2 = bt168.2 then ((slabvaultlaw13_ints.f k bt170.1 bt177.1).bind fun t184 => (if t184 = true then ((slabvaultlaw13_ints.f k bt170.2.1 bt177.2.1).bind fun t185 => (if t185 = true then (if bt170.2.2 = bt177.2.2 then ((slabvaultlaw13_lives.f).bind fun t186 => (some t186)) else (none)) else (none))) else (none))) else (none)) else (none)))))
def slabvaultlaw13_GridCounts.Pure : Prop := ∀ (l0 : List Int) (l1 : List Int) (l2 : List Int), l0.length ≤ maxLen → l0.length * 8 ≤ 140737488351232 → (∀ x ∈ l0, (Lit.int .i64 x).wf = true) → l1.length ≤ maxLen → l1.length * 8 ≤ 140737488351232 → (∀ x ∈ l1, (Lit.int .i64 x).wf = true) → l2.length ≤ maxLen → l2.length * 8 ≤ 140737488351232 → (∀ x ∈ l2, (Lit.int .i64 x).wf = true) → ∃ k, slabvaultlaw13_GridCounts.f k l0 l1 l2 = some true
end Go.Proofs.Ytjbjofmcmjojlab.Wk
end
section
namespace Go.Proofs.Ytjbjofmcmjojlab.Pure
open Go.RowKit Go.Proofs.Ytjbjofmcmjojlab.Wk Go.Proofs.YtjbjofmcmjojlabW.PrintWords Go.Proofs.YtjbjofmcmjojlabW.PrintLast Go.Proofs.YtjbjofmcmjojlabW.PrintMore
def chunkL (D H : List Int) : Nat → Nat → Int → Int
  | 0, _, n => n
  | d + 1, i, n => chunkL D H d (i + 1) (wrap64 (n * wrap64 (Int.tdiv (wrap64 (wrap64 (rd D i + rd H i) - 1)) (rd H i))))
def chunksT (D H : List Int) : Int × Int := if fitT D H = 0 then (chunkL D H D.length 0 1, 0) else (0, fitT D H)
def ofT (A S : List Int) : List Int × List Int × Int := if 4 < A.length ∨ A.length ≠ S.length then ([], [], 2) else ofLoop A S A.length 0 [] []
end Go.Proofs.Ytjbjofmcmjojlab.Pure
end
section
namespace Go.Proofs.Ytjbjofmcmjojlab.Wk
open Go.RowKit Go.Proofs.YtjbjofmcmjojlabW.PrintWords Go.Proofs.YtjbjofmcmjojlabW.PrintLast Go.Proofs.YtjbjofmcmjojlabW.PrintMore
attribute [local go_sem] max2_int min2_int max_two min_two max_three min_three max_four min_four
set_option linter.unusedVariables false
set_option linter.unusedSimpArgs false
def slabvaultlaw13_next.l0 : Nat → List Int → List Int → Int → Option (Bool × List Int)
  | 0, _, _, _ => none
  | k + 1, x0, x1, x5 => if x5 ≥ 0 then (if 0 ≤ x5 then (if x5 < (x0.length : Int) then ((some (x0.set (x5 : Int).toNat (wrap64 ((rd x0 x5) + 1)) : List Int)).bind fun y339 => (if x5 < (x1.length : Int) then (if (rd y339 x5) < (rd x1 x5) then (some (true, y339)) else (slabvaultlaw13_next.l0 k (y339.set (x5 : Int).toNat 0) x1 (wrap64 (x5 - 1)))) else (none))) else (none)) else (none)) else (some (false, x0))
def slabvaultlaw13_next.f (k : Nat) (l0 : List Int) (l1 : List Int) : Option (Bool × List Int) := slabvaultlaw13_next.l0 k l0 l1 (wrap64 ((l0.length : Int) - 1))
end Go.Proofs.Ytjbjofmcmjojlab.Wk
end
section
namespace Go.Proofs.Ytjbjofmcmjojlab.Wk
open Go.RowKit Go.Proofs.YtjbjofmcmjojlabW.PrintWords Go.Proofs.YtjbjofmcmjojlabW.PrintLast Go.Proofs.YtjbjofmcmjojlabW.PrintMore
attribute [local go_sem] max2_int min2_int max_two min_two max_three min_three max_four min_four
set_option linter.unusedVariables false
set_option linter.unusedSimpArgs false
def slabvaultlaw13_counts.l0 : Nat → List Int → List Int → List Int → Int → Option (List Int)
  | 0, _, _, _, _ => none
  | k + 1, x0, x1, x5, x6 => if x6 < (x0.length : Int) then (if 0 ≤ x6 then (if x6 < (x1.length : Int) then (if (rd x1 x6) = 0 then (none) else (if x5.length < 17592186044416 then (slabvaultlaw13_counts.l0 k x0 x1 (x5 ++ [wrap64 (Int.tdiv (wrap64 ((wrap64 ((rd x0 x6) + (rd x1 x6))) - 1)) (rd x1 x6))]) (wrap64 (x6 + 1))) else (none))) else (none)) else (none)) else (some x5)
def slabvaultlaw13_counts.f (k : Nat) (l0 : List Int) (l1 : List Int) : Option (List Int) := slabvaultlaw13_counts.l0 k l0 l1 ([] : List Int) 0
def slabvaultlaw13_counts.T5 : Bool × List (List Nat × List Nat) := (true, [([], []), ([], []), ([], []), ([1, 2], [1, 2]), ([3], [3]), ([], []), ([], []), ([5, 6], [5, 6]), ([7], [7]), ([4, 8], [4, 8]), ([9], [9]), ([], []), ([], []), ([11, 12], [11, 12]), ([13], [13]), ([10, 14], [10, 14]), ([15], [15]), ([0, 16], [0, 16]), ([17, 17, 0, 1, 2, 3, 4, 5, 6, 7, 8, 9, 10, 11, 12, 13, 14, 15, 16, 17], [0, 17])])
def slabvaultlaw13_counts.B5 : List Nat := [0, 0, 0, 6, 14, 0, 0, 96, 224, 510, 1022, 0, 0, 6144, 14336, 32766, 65534, 131071, 262143]
end Go.Proofs.Ytjbjofmcmjojlab.Wk
end
section
namespace Go.Proofs.Ytjbjofmcmjojlab.Pure
open Go.RowKit Go.Proofs.Ytjbjofmcmjojlab.Wk Go.Proofs.YtjbjofmcmjojlabW.PrintWords Go.Proofs.YtjbjofmcmjojlabW.PrintLast Go.Proofs.YtjbjofmcmjojlabW.PrintMore Go.Proofs.YtjbjofmcmjojlabQ
def prodI : List Int → Int
  | [] => 1
  | d :: D => d * prodI D
def sumI : List Int → Int
  | [] => 0
  | d :: D => d + sumI D
def cntI (d h : Int) : Nat := ((d + h - 1) / h).toNat
def cntL : List Int → List Int → List Nat
  | d :: D, h :: H => cntI d h :: cntL D H
  | _, _ => []
def partL : List Int → List Int → List Nat → Int
  | d :: D, h :: H, i :: s => mn h (d - (i : Int) * h) * partL D H s
  | _, _, _ => 1
def prodN : List Nat → Nat
  | [] => 1
  | n :: N => n * prodN N
theorem lex_length : ∀ (N : List Nat), (lexList N).length = prodN N
  | [] => rfl
  | n :: N => by
    simp only [lexList, prodN]
    have key : ∀ (l : List Nat), (l.flatMap fun i => (lexList N).map (i :: ·)).length = l.length * prodN N := by
      intro l
      induction l with
      | nil => simp
      | cons i l ih => rw [List.flatMap_cons, List.length_append, ih, List.length_map, lex_length N, List.length_cons, Nat.add_mul, Nat.one_mul, Nat.add_comm]
    rw [key, List.length_range]
theorem lex_mem : ∀ (N s : List Nat), s ∈ lexList N → s.length = N.length ∧ ∀ d, d < N.length → s.getD d 0 < N.getD d 0
  | [], s, h => by simp [lexList] at h; subst h; simp
  | n :: N, s, h => by
    simp only [lexList, List.mem_flatMap, List.mem_range, List.mem_map] at h
    obtain ⟨i, hi, t, ht, rfl⟩ := h
    have := lex_mem N t ht
    refine ⟨by simp [this.1], fun d hd => ?_⟩
    cases d with
    | zero => simpa using hi
    | succ d => simpa using this.2 d (by simpa using hd)
theorem rd_ints (s : List Nat) (i : Nat) : rd (ints s) (i : Int) = (s.getD i 0 : Nat) := by
  simp only [rd, ints]
  rcases Nat.lt_or_ge i s.length with h | h
  · simp [List.getD_eq_getElem?_getD, h]
  · simp [List.getD_eq_getElem?_getD, h]
theorem ints_set (s : List Nat) (i x : Nat) : (ints s).set i (x : Int) = ints (s.set i x) := by
  simp only [ints]
  rw [List.map_set]
  rfl
structure Full (D H : List Int) : Prop where
  good : Good D H
  pos : ∀ x ∈ D, 1 ≤ x
theorem Full.dim {D H : List Int} (h : Full D H) (i : Nat) (hi : i < D.length) : 1 ≤ rd D i ∧ rd D i ≤ 1048576 := by
  have := h.good.dims i hi
  have h2 := h.pos _ (List.getElem_mem hi)
  rw [← rd_nat D i hi] at h2
  omega
theorem prodI_drop {D : List Int} (i : Nat) (hi : i < D.length) : prodI (D.drop i) = rd D i * prodI (D.drop (i + 1)) := by
  rw [List.drop_eq_getElem_cons hi, prodI, rd_nat D i hi]
theorem prodLoop_eq (D : List Int) : ∀ (d i : Nat) (n p : Int), D.length - i = d → i ≤ D.length → n ≤ 1048576 → prodLoop D d i n = (p, 0) → p = n * prodI (D.drop i) ∧ p ≤ 1048576 := by
  intro d
  induction d with
  | zero =>
    intro i n p h hi hn hp
    rw [List.drop_eq_nil_of_le (by omega)]
    cases hp
    simp [prodI]; omega
  | succ d ih =>
    intro i n p h hi hn hp
    have hlt : i < D.length := by omega
    rw [prodLoop] at hp
    split at hp
    · simp at hp
    · have := ih (i + 1) _ p (by omega) (by omega) (by omega) hp
      rw [prodI_drop i hlt, ← Int.mul_assoc]
      exact this
theorem clipT_ok {D H c : List Int} (h0 : fitT D H = 0) (hl : c.length = D.length) (hc : ∀ i : Nat, i < c.length → 0 ≤ rd c i) : clipT D H c = (clipS D H c 0, clipP D H c 0, 0) := by
  have hr : rightT c D.length = true := by
    simp only [rightT, Bool.and_eq_true, decide_eq_true_eq, Bool.not_eq_true', hl, true_and]
    apply Bool.eq_false_iff.2
    intro h
    obtain ⟨x, hx, hn⟩ := List.any_eq_true.1 h
    obtain ⟨i, hi, rfl⟩ := List.getElem_of_mem hx
    have := hc i hi
    rw [rd_nat c i hi] at this
    simp [negCoord] at hn
    omega
  unfold clipT
  rw [if_pos h0, if_pos hr]
end Go.Proofs.Ytjbjofmcmjojlab.Pure
end
section
namespace Go.Proofs.Ytjbjofmcmjojlab.Pure
open Go.RowKit Go.Proofs.Ytjbjofmcmjojlab.Wk Go.Proofs.YtjbjofmcmjojlabW.PrintWords Go.Proofs.YtjbjofmcmjojlabW.PrintLast Go.Proofs.YtjbjofmcmjojlabW.PrintMore Go.Proofs.YtjbjofmcmjojlabQ
def placeN : List Nat → List Nat → Nat
  | d :: D, t :: T => t * prodN D + placeN D T
  | _, _ => 0
def addN (s t : List Nat) : List Nat := List.zipWith (· + ·) s t
theorem placeN_last : ∀ (D u : List Nat) (a x : Nat), D.length = u.length + 1 → placeN D (u ++ [a + x]) = placeN D (u ++ [x]) + a
  | [], u, _, _, h => by simp at h
  | [d], [], a, x, _ => by simp [placeN, prodN]; omega
  | d :: D, [], a, x, h => by
    have : D = [] := List.eq_nil_of_length_eq_zero (by simpa using h)
    subst this
    simp [placeN, prodN]; omega
  | d :: D, y :: u, a, x, h => by
    simp only [List.cons_append, placeN]
    rw [placeN_last D u a x (by simpa using h)]
    omega
theorem valid_place : ∀ (D T : List Nat), T ∈ lexList D → placeN D T < prodN D
  | [], T, h => by simp [lexList] at h; subst h; simp [placeN, prodN]
  | d :: D, T, h => by
    simp only [lexList, List.mem_flatMap, List.mem_range, List.mem_map] at h
    obtain ⟨i, hi, t, ht, rfl⟩ := h
    have h1 := valid_place D t ht
    have h2 : (i + 1) * prodN D ≤ d * prodN D := Nat.mul_le_mul_right _ hi
    simp only [placeN, prodN]
    rw [Nat.add_mul, Nat.one_mul] at h2
    omega
theorem range_blocks (M : Nat) : ∀ h : Nat, ((List.range h).flatMap fun i => (List.range M).map fun j => i * M + j) = List.range (h * M)
  | 0 => by simp
  | h + 1 => by
    rw [List.range_succ, List.flatMap_append, range_blocks M h, Nat.add_mul, Nat.one_mul, List.range_add]
    simp
theorem lex_places : ∀ H : List Nat, (lexList H).map (placeN H) = List.range (prodN H)
  | [] => rfl
  | h :: H => by
    simp only [lexList, prodN, List.map_flatMap, List.map_map]
    rw [← range_blocks]
    congr 1
    funext i
    rw [← lex_places H, List.map_map]
    rfl
theorem lex_index {H : List Nat} {pre suf : List (List Nat)} {t : List Nat} (h : lexList H = pre ++ t :: suf) : placeN H t = pre.length := by
  have h1 := lex_places H
  rw [h, List.map_append, List.map_cons] at h1
  have h2 := congrArg (fun l => l[pre.length]?) h1
  simp only [List.getElem?_append_right (show (pre.map (placeN H)).length ≤ pre.length by simp), List.length_map, Nat.sub_self, List.getElem?_cons_zero] at h2
  have h3 : pre.length < prodN H := by
    rw [← lex_length, h]; simp
  rw [List.getElem?_range h3] at h2
  exact Option.some.inj h2
theorem lex_snoc : ∀ (P : List Nat) (m : Nat), lexList (P ++ [m]) = (lexList P).flatMap fun s => (List.range m).map fun a => s ++ [a]
  | [], m => by
    have : ∀ n : Nat, (List.range n).flatMap (fun i => [[i]]) = (List.range n).map fun a => [a] := by
      intro n
      induction n with
      | zero => rfl
      | succ n ih => rw [List.range_succ, List.flatMap_append, ih, List.map_append]; rfl
    simpa [lexList] using this m
  | p :: P, m => by
    simp only [List.cons_append, lexList]
    rw [List.flatMap_assoc]
    congr 1
    funext i
    rw [lex_snoc P m, List.map_flatMap, List.flatMap_map]
    congr 1
    funext s
    rw [List.map_map]
    rfl
def insideB : List Nat → List Nat → Bool
  | p :: P, t :: T => decide (t < p) && insideB P T
  | _, _ => true
theorem range_part {α : Type} (f : Nat → List α) (p : Nat) : ∀ h : Nat, p ≤ h → ((List.range h).flatMap fun i => if i < p then f i else []) = (List.range p).flatMap f
  | 0, hp => by have : p = 0 := by omega
                subst this; rfl
  | h + 1, hp => by
    rcases Nat.lt_or_ge h p with hlt | hge
    · have : p = h + 1 := by omega
      subst this
      have : ∀ n : Nat, n ≤ h + 1 → ((List.range n).flatMap fun i => if i < h + 1 then f i else []) = (List.range n).flatMap f := by
        intro n
        induction n with
        | zero => intro _; rfl
        | succ n ih =>
          intro hn
          rw [List.range_succ, List.flatMap_append, List.flatMap_append, ih (by omega)]
          simp [show n < h + 1 by omega]
      exact this _ (Nat.le_refl _)
    · rw [List.range_succ, List.flatMap_append, range_part f p h hge]
      simp [show ¬ h < p by omega]
theorem lex_inside : ∀ (H P : List Nat), H.length = P.length → (∀ d, P.getD d 0 ≤ H.getD d 0) → (lexList H).filter (insideB P) = lexList P
  | [], [], _, _ => by simp [lexList, insideB]
  | h :: H, p :: P, hl, hle => by
    have h0 : p ≤ h := by simpa using hle 0
    have ih := lex_inside H P (by simpa using hl) (fun d => by simpa using hle (d + 1))
    simp only [lexList, List.filter_flatMap]
    rw [← range_part _ p h h0]
    congr 1
    funext i
    rw [List.filter_map, ← ih]
    by_cases c : i < p
    · rw [if_pos c]
      congr 1
      apply List.filter_congr
      intro t _
      simp [insideB, c]
    · rw [if_neg c]
      simp only [List.map_eq_nil_iff, List.filter_eq_nil_iff]
      intro t _
      simp [insideB, c]
def one (Z : Nat) (X O : List Int) (q : Nat × Nat) : List Int := laid O (q.1 * Z) ((X.drop (q.2 * Z)).take Z)
def puts (Z : Nat) (X O : List Int) (l : List (Nat × Nat)) : List Int := l.foldl (one Z X) O
theorem laid_get (xs ys : List Int) (o j : Nat) (h : o + ys.length ≤ xs.length) : (laid xs o ys).getD j 0 = if o ≤ j ∧ j < o + ys.length then ys.getD (j - o) 0 else xs.getD j 0 := by
  simp only [laid, List.getD_eq_getElem?_getD, List.getElem?_append, List.getElem?_take, List.getElem?_drop, List.length_take, List.length_append, List.length_drop]
  split
  · split
    · rw [if_neg (by omega)]
    · omega
  · split
    · rw [if_pos (by omega)]
      congr 2
      omega
    · rw [if_neg (by omega)]
      congr 2
      omega
theorem ext_get {xs ys : List Int} (hl : xs.length = ys.length) (h : ∀ j, j < xs.length → xs.getD j 0 = ys.getD j 0) : xs = ys := by
  apply List.ext_getElem hl
  intro j h1 h2
  have := h j h1
  simpa [List.getD_eq_getElem?_getD, h1, h2] using this
theorem block_length {X : List Int} {Z N f m : Nat} (hX : X.length = N * Z) (hf : f + m ≤ N) : ((X.drop (f * Z)).take (m * Z)).length = m * Z := by
  have : (f + m) * Z ≤ N * Z := Nat.mul_le_mul_right _ hf
  rw [Nat.add_mul] at this
  simp only [List.length_take, List.length_drop]
  omega
theorem block_get {X : List Int} {n o j : Nat} (hj : j < n) : ((X.drop o).take n).getD j 0 = X.getD (o + j) 0 := by
  simp only [List.getD_eq_getElem?_getD, List.getElem?_take, hj, if_true, List.getElem?_drop]
theorem laid_more {X O : List Int} {Z M N t f m : Nat} (hX : X.length = N * Z) (hO : O.length = M * Z) (ht : t + (m + 1) ≤ M) (hf : f + (m + 1) ≤ N) :
    laid O (t * Z) ((X.drop (f * Z)).take ((m + 1) * Z)) = one Z X (laid O (t * Z) ((X.drop (f * Z)).take (m * Z))) (t + m, f + m) := by
  have b1 := block_length hX hf
  have b2 := block_length (Z := Z) hX (show f + m ≤ N by omega)
  have b3 := block_length (Z := Z) (m := 1) hX (show (f + m) + 1 ≤ N by omega)
  rw [Nat.one_mul] at b3
  have ht' : (t + (m + 1)) * Z ≤ M * Z := Nat.mul_le_mul_right _ ht
  have e1 : (t + (m + 1)) * Z = t * Z + m * Z + Z := by rw [Nat.add_mul, Nat.add_mul, Nat.one_mul]; omega
  rw [e1] at ht'
  have e2 : (m + 1) * Z = m * Z + Z := by rw [Nat.add_mul, Nat.one_mul]
  have e3 : (t + m) * Z = t * Z + m * Z := Nat.add_mul _ _ _
  have e4 : (f + m) * Z = f * Z + m * Z := Nat.add_mul _ _ _
  have l1 : (laid O (t * Z) ((X.drop (f * Z)).take ((m + 1) * Z))).length = O.length := laid_length _ _ _ (by rw [b1]; omega)
  have l2 : (laid O (t * Z) ((X.drop (f * Z)).take (m * Z))).length = O.length := laid_length _ _ _ (by rw [b2]; omega)
  unfold one
  rw [e2] at b1 l1
  rw [e4] at b3
  simp only [e2, e3, e4]
  generalize t * Z = a at *
  generalize f * Z = c at *
  generalize m * Z = b at *
  generalize M * Z = mz at *
  have l3 : (laid (laid O a ((X.drop c).take b)) (a + b) ((X.drop (c + b)).take Z)).length = O.length := by rw [laid_length _ _ _ (by rw [l2, b3]; omega), l2]
  refine ext_get (by rw [l1, l3]) (fun j hj => ?_)
  rw [laid_get _ _ _ _ (by rw [b1]; omega), laid_get _ _ _ _ (by rw [l2, b3]; omega), laid_get _ _ _ _ (by rw [b2]; omega), b1, b2, b3]
  by_cases c1 : a ≤ j ∧ j < a + b
  · rw [if_pos ⟨c1.1, by omega⟩, if_neg (by omega), if_pos c1, block_get (by omega), block_get (by omega)]
  · by_cases c2 : a + b ≤ j ∧ j < a + b + Z
    · rw [if_pos ⟨by omega, by omega⟩, if_pos (by omega), block_get (by omega), block_get (by omega)]
      congr 1
      omega
    · rw [if_neg (by omega), if_neg (by omega), if_neg c1]
theorem one_length {X O : List Int} {Z M N : Nat} {q : Nat × Nat} (hX : X.length = N * Z) (hO : O.length = M * Z) (h1 : q.1 < M) (h2 : q.2 < N) : (one Z X O q).length = M * Z := by
  have b := block_length (Z := Z) (m := 1) hX (show q.2 + 1 ≤ N from h2)
  rw [Nat.one_mul] at b
  have : (q.1 + 1) * Z ≤ M * Z := Nat.mul_le_mul_right _ h1
  rw [Nat.add_mul, Nat.one_mul] at this
  unfold one
  rw [laid_length _ _ _ (by rw [b]; omega), hO]
theorem puts_length {X : List Int} {Z M N : Nat} (hX : X.length = N * Z) : ∀ (l : List (Nat × Nat)) (O : List Int), O.length = M * Z → (∀ q ∈ l, q.1 < M ∧ q.2 < N) → (puts Z X O l).length = M * Z
  | [], O, hO, _ => hO
  | q :: l, O, hO, h => by
    have hq := h q List.mem_cons_self
    exact puts_length hX l _ (one_length hX hO hq.1 hq.2) (fun q' hq' => h q' (List.mem_cons_of_mem _ hq'))
theorem row_puts {X O : List Int} {Z M N t f : Nat} (hX : X.length = N * Z) (hO : O.length = M * Z) : ∀ m : Nat, t + m ≤ M → f + m ≤ N →
    laid O (t * Z) ((X.drop (f * Z)).take (m * Z)) = puts Z X O ((List.range m).map fun a => (t + a, f + a))
  | 0, h1, _ => by
    have : t * Z ≤ M * Z := Nat.mul_le_mul_right _ (by omega)
    simp [puts, laid]
  | m + 1, h1, h2 => by
    rw [laid_more hX hO h1 h2, row_puts hX hO m (by omega) (by omega)]
    simp only [puts]
    rw [List.range_succ, List.map_append, List.foldl_append]
    rfl
theorem fold_ev {β : Type} (step : Nat → List Int → β → Option (List Int)) (stepN : List Int → β → List Int) (J : List Int → Prop) : ∀ (l : List β) (O : List Int), J O → (∀ q ∈ l, ∀ O, J O → Ev (fun k => step k O q) (stepN O q) ∧ J (stepN O q)) → Ev (fun k => l.foldlM (step k) O) (l.foldl stepN O)
  | [], O, _, _ => Ev.now _
  | q :: l, O, hJ, h => by
    have hq := h q List.mem_cons_self O hJ
    simp only [List.foldlM_cons, List.foldl_cons]
    exact Ev.bind hq.1 (fold_ev step stepN J l _ hq.2 (fun q' hq' => h q' (List.mem_cons_of_mem _ hq')))
theorem contains_ints (P : List Nat) : (ints P).contains 0 = P.contains 0 := by
  induction P with
  | nil => rfl
  | cons p P ih =>
    simp only [ints, List.map_cons, List.contains_cons] at ih ⊢
    rw [ih]
    congr 1
    cases p <;> rfl
theorem lex_nought : ∀ P : List Nat, P.contains 0 = true → lexList P = []
  | [], h => by simp at h
  | p :: P, h => by
    simp only [List.contains_cons, Bool.or_eq_true, beq_iff_eq] at h
    rcases h with h | h
    · subst h; simp [lexList]
    · simp [lexList, lex_nought P h]
theorem toNat_ints (s : List Nat) : (ints s).map Int.toNat = s := by
  induction s with
  | nil => rfl
  | cons x s ih =>
    simp only [ints, List.map_cons] at ih ⊢
    rw [ih]
    rfl
theorem toNat_at (s : List Nat) : (ints s ++ [0]).map Int.toNat = s ++ [0] := by
  rw [List.map_append, toNat_ints]; rfl
theorem rows_fold (step : Nat → List Int → List Int × Int → Option (List Int)) (Z M N : Nat) (X : List Int) (toF fromF : List Nat → Nat) (P : List Nat) (hX : X.length = N * Z)
    (hadd : ∀ (s : List Nat) (a : Nat), s.length + 1 = P.length → toF (s ++ [a]) = toF (s ++ [0]) + a ∧ fromF (s ++ [a]) = fromF (s ++ [0]) + a) (hb : ∀ t ∈ lexList P, toF t < M ∧ fromF t < N)
    (hstep : ∀ (O : List Int) (t : List Nat) (m : Nat), O.length = M * Z → 1 ≤ m → t ∈ lexList P → toF t + m ≤ M → fromF t + m ≤ N → Ev (fun k => step k O (ints t, (m : Int))) (laid O (toF t * Z) ((X.drop (fromF t * Z)).take (m * Z)))) (O : List Int) (hO : O.length = M * Z) :
    Ev (fun k => (rowsOf (ints P)).foldlM (step k) O) (puts Z X O ((lexList P).map fun t => (toF t, fromF t))) := by
  unfold rowsOf
  rw [contains_ints]
  by_cases hz : P.contains 0 = true
  · rw [if_pos hz, lex_nought P hz]
    exact Ev.now _
  rw [if_neg hz]
  rcases List.eq_nil_or_concat P with rfl | ⟨P', m, rfl⟩
  · have ht := hb [] (by simp [lexList])
    simp only [show ints [] = [] from rfl, if_true]
    refine Ev.bind (a := laid O (toF [] * Z) ((X.drop (fromF [] * Z)).take (1 * Z))) ?_ ?_
    · exact hstep O [] 1 hO (by omega) (by simp [lexList]) (by omega) (by omega)
    · simp only [lexList, List.map_cons, List.map_nil, puts, List.foldl_cons, List.foldl_nil, one, Nat.one_mul]
      exact Ev.now _
  · simp only [List.concat_eq_append] at *
    have hne : ints (P' ++ [m]) ≠ [] := by simp [ints]
    rw [if_neg hne]
    have e1 : (ints (P' ++ [m])).dropLast.map Int.toNat = P' := by
      rw [show (ints (P' ++ [m])).dropLast = ints P' by simp [ints], toNat_ints]
    have e2 : (((ints (P' ++ [m])).getLast?.getD 0).toNat : Int) = (m : Int) := by simp [ints]
    rw [e1, e2]
    have hm : 1 ≤ m := by
      rcases Nat.eq_zero_or_pos m with h0 | h0
      · subst h0; simp at hz
      · exact h0
    have hin : ∀ s ∈ lexList P', ∀ a, a < m → s ++ [a] ∈ lexList (P' ++ [m]) := by
      intro s hs a ha
      rw [lex_snoc]
      exact List.mem_flatMap.2 ⟨s, hs, List.mem_map.2 ⟨a, List.mem_range.2 ha, rfl⟩⟩
    have hat : ∀ s : List Nat, atOf s = ints (s ++ [0]) := by intro s; simp [atOf, ints]
    have hrow : ∀ s ∈ lexList P', toF (s ++ [0]) + m ≤ M ∧ fromF (s ++ [0]) + m ≤ N := by
      intro s hs
      have h1 := hb _ (hin s hs (m - 1) (by omega))
      have h2 := hadd s (m - 1) (by have := (lex_mem _ _ hs).1; simp; omega)
      omega
    have hmain := fold_ev step (fun O q => puts Z X O ((List.range m).map fun a => (toF ((q.1.map Int.toNat)) + a, fromF ((q.1.map Int.toNat)) + a))) (fun O => O.length = M * Z) ((lexList P').map fun s => (atOf s, (m : Int))) O hO (fun q hq O' hO' => by
      obtain ⟨s, hs, rfl⟩ := List.mem_map.1 hq
      have hr := hrow s hs
      have ht : (atOf s).map Int.toNat = s ++ [0] := toNat_at s
      simp only [ht]
      refine ⟨?_, puts_length (N := N) hX _ _ hO' (fun q' hq' => ?_)⟩
      · rw [← row_puts hX hO' m hr.1 hr.2, hat]
        exact hstep O' (s ++ [0]) m hO' hm (hin s hs 0 (by omega)) hr.1 hr.2
      · obtain ⟨a, ha, rfl⟩ := List.mem_map.1 hq'
        have := List.mem_range.1 ha
        simp only
        omega)
    have e3 : ∀ (l : List (List Nat)) (O : List Int), (∀ s ∈ l, s ∈ lexList P') → (l.map fun s => (atOf s, (m : Int))).foldl (fun O q => puts Z X O ((List.range m).map fun a => (toF ((q.1.map Int.toNat)) + a, fromF ((q.1.map Int.toNat)) + a))) O = puts Z X O ((l.flatMap fun s => (List.range m).map fun a => s ++ [a]).map fun t => (toF t, fromF t)) := by
      intro l
      induction l with
      | nil => intro O _; rfl
      | cons s l ih =>
        intro O hl
        have ht : (atOf s).map Int.toNat = s ++ [0] := toNat_at s
        rw [List.map_cons, List.foldl_cons, ih _ (fun x hx => hl x (List.mem_cons_of_mem _ hx)), List.flatMap_cons, List.map_append]
        simp only [puts]
        rw [List.foldl_append]
        congr 2
        rw [ht, List.map_map]
        apply List.map_congr_left
        intro a _
        have h2 := hadd s a (by have := (lex_mem _ _ (hl s List.mem_cons_self)).1; simp; omega)
        simp only [Function.comp, h2.1, h2.2]
    rw [e3 _ _ (fun s hs => hs), ← lex_snoc] at hmain
    exact hmain
end Go.Proofs.Ytjbjofmcmjojlab.Pure
end
section
namespace Go.Proofs.Ytjbjofmcmjojlab.Wk
open Go.RowKit Go.Proofs.YtjbjofmcmjojlabW.PrintWords Go.Proofs.YtjbjofmcmjojlabW.PrintLast Go.Proofs.YtjbjofmcmjojlabW.PrintMore
attribute [local go_sem] max2_int min2_int max_two min_two max_three min_three max_four min_four
set_option linter.unusedVariables false
set_option linter.unusedSimpArgs false
def slabvaultref13_Cut.l0 : Nat → List Int → Int → List Int → List Int → List Int → List Int → List Int → List (List Int) → Int → Option (List Int × Int)
  | 0, _, _, _, _, _, _, _, _, _ => none
  | k + 1, x0, x1, x2, x3, x4, x5, x15, x16, x17 => if x17 < (x16.length : Int) then (if 0 ≤ x17 then ((slabvaultref13_where.f k x2 x3 x4 (rd_L1 x16 x17)).bind fun bt289 => (if bt289.2 = true then ((slabvaultref12_Place.f k x2 bt289.1).bind fun t293 => (if 0 ≤ (wrap64 (t293 * x1)) then (if (wrap64 (t293 * x1)) ≤ (wrap64 ((wrap64 (t293 * x1)) + x1)) then (if (wrap64 ((wrap64 (t293 * x1)) + x1)) ≤ (x0.length : Int) then (if x15.length + ((x0.take ((wrap64 ((wrap64 (t293 * x1)) + x1)) : Int).toNat).drop ((wrap64 (t293 * x1)) : Int).toNat).length < 140737488355328 then (slabvaultref13_Cut.l0 k x0 x1 x2 x3 x4 x5 (x15 ++ ((x0.take ((wrap64 ((wrap64 (t293 * x1)) + x1)) : Int).toNat).drop ((wrap64 (t293 * x1)) : Int).toNat)) x16 (wrap64 (x17 + 1))) else (none)) else (none)) else (none)) else (none))) else (if x15.length + x5.length < 140737488355328 then (slabvaultref13_Cut.l0 k x0 x1 x2 x3 x4 x5 (x15 ++ x5) x16 (wrap64 (x17 + 1))) else (none)))) else (none)) else (some (x15, 0))
def slabvaultref13_Cut.f (k : Nat) (l0 : List Int) (a1 : Int) (l2 : List Int) (l3 : List Int) (l4 : List Int) (l5 : List Int) : Option (List Int × Int) := (slabvaultref13_bytes.f k l0 a1 l2 l3 l4 l5 false).bind fun t284 => (if t284 = 0 then ((slabvaultref13_tuples.f k l3).bind fun t285 => (slabvaultref13_Cut.l0 k l0 a1 l2 l3 l4 l5 ([] : List Int) t285 0)) else (some (([] : List Int), t284)))
end Go.Proofs.Ytjbjofmcmjojlab.Wk
end
section
namespace Go.Proofs.Ytjbjofmcmjojlab.Pure
open Go.RowKit Go.Proofs.Ytjbjofmcmjojlab.Wk Go.Proofs.YtjbjofmcmjojlabW.PrintWords Go.Proofs.YtjbjofmcmjojlabW.PrintLast Go.Proofs.YtjbjofmcmjojlabW.PrintMore Go.Proofs.YtjbjofmcmjojlabQ
theorem lex_of : ∀ D T : List Nat, T.length = D.length → (∀ d, d < D.length → T.getD d 0 < D.getD d 0) → T ∈ lexList D
  | [], T, hl, _ => by
    have : T = [] := List.eq_nil_of_length_eq_zero hl
    subst this; simp [lexList]
  | d :: D, [], hl, _ => by simp at hl
  | d :: D, t :: T, hl, h => by
    simp only [lexList, List.mem_flatMap, List.mem_range, List.mem_map]
    refine ⟨t, by simpa using h 0 (by simp), T, lex_of D T (by simpa using hl) (fun j hj => ?_), rfl⟩
    simpa using h (j + 1) (by simpa using hj)
theorem getD_drop (D : List Nat) (i : Nat) (h : i < D.length) : D.drop i = D.getD i 0 :: D.drop (i + 1) := by
  rw [List.drop_eq_getElem_cons h]
  simp [List.getD_eq_getElem?_getD, h]
theorem prodN_ge : ∀ D : List Nat, (∀ d, d < D.length → 1 ≤ D.getD d 0) → 1 ≤ prodN D
  | [], _ => by simp [prodN]
  | d :: D, h => by
    have h1 := prodN_ge D (fun j hj => by simpa using h (j + 1) (by simpa using hj))
    have h2 : 1 ≤ d := by simpa using h 0 (by simp)
    exact Nat.mul_le_mul h2 h1
theorem ints_length (s : List Nat) : (ints s).length = s.length := by simp [ints]
theorem place_step {n d t R : Nat} (ht : t < d) (hR : 1 ≤ R) (h : (n + 1) * (d * R) ≤ 1048576) : wrap64 (wrap64 ((n : Int) * (d : Int)) + (t : Int)) = ((n * d + t : Nat) : Int) ∧ (n * d + t + 1) * R ≤ 1048576 := by
  have h1 : n * d + t + 1 ≤ (n + 1) * d := by rw [Nat.add_mul, Nat.one_mul]; omega
  have h2 : (n * d + t + 1) * R ≤ (n + 1) * d * R := Nat.mul_le_mul_right _ h1
  rw [Nat.mul_assoc] at h2
  have h3 : (n * d + t + 1) * 1 ≤ (n * d + t + 1) * R := Nat.mul_le_mul_left _ hR
  have e : (n : Int) * (d : Int) = ((n * d : Nat) : Int) := by push_cast; rfl
  rw [e]
  refine ⟨?_, by omega⟩
  generalize n * d = q at *
  unfold wrap64; omega
theorem valid_rest {D T : List Nat} (hv : ∀ d, d < D.length → T.getD d 0 < D.getD d 0) (i : Nat) : 1 ≤ prodN (D.drop i) := by
  apply prodN_ge
  intro d hd
  rw [List.length_drop] at hd
  have := hv (i + d) (by omega)
  simp only [List.getD_eq_getElem?_getD, List.getElem?_drop] at this ⊢
  omega
theorem place_sum {n d t R p : Nat} : (n * d + t) * R + p = n * (d * R) + (t * R + p) := by
  rw [Nat.add_mul, Nat.mul_assoc]; omega
theorem place_l0 (D T : List Nat) (h4 : D.length ≤ 4) (hl : T.length = D.length) (hv : ∀ d, d < D.length → T.getD d 0 < D.getD d 0) : ∀ (d i n : Nat), D.length - i = d → i ≤ D.length → (n + 1) * prodN (D.drop i) ≤ 1048576 →
    Ev (fun k => grid_place.l0 k (ints D) (ints T) (n : Int) (D.length : Int) i) ((n * prodN (D.drop i) + placeN (D.drop i) (T.drop i) : Nat) : Int) := by
  have l1 := ints_length D
  have l2 := ints_length T
  intro d
  induction d with
  | zero =>
    intro i n h hi _
    refine Ev.step (f := fun _ => some (n : Int)) (fun k => ?_) ?_
    · simp only [grid_place.l0]
      rw [if_neg (by omega)]
    · rw [List.drop_eq_nil_of_le (show D.length ≤ i by omega)]
      simpa [prodN, placeN] using Ev.now (n : Int)
  | succ d ih =>
    intro i n h hi hb
    have hlt : i < D.length := by omega
    rw [getD_drop D i hlt, getD_drop T i (by omega), prodN] at *
    have hs := place_step (hv i hlt) (valid_rest hv (i + 1)) hb
    rw [placeN, ← place_sum]
    refine Ev.step (f := fun k => grid_place.l0 k (ints D) (ints T) ((n * D.getD i 0 + T.getD i 0 : Nat) : Int) (D.length : Int) ((i + 1 : Nat) : Int)) (fun k => ?_) (ih (i + 1) _ (by omega) (by omega) hs.2)
    simp only [grid_place.l0]
    rw [if_pos (by omega), if_pos (by omega), if_pos (by omega), if_pos (by omega), rd_ints, rd_ints, hs.1, wrap_up hlt (by omega)]
theorem place_ev (D T : List Nat) (h4 : D.length ≤ 4) (hT : T ∈ lexList D) (hp : prodN D ≤ 1048576) : Ev (fun k => grid_place.f k (ints D) (ints T)) ((placeN D T : Nat) : Int) := by
  have hm := lex_mem D T hT
  unfold grid_place.f
  have := place_l0 D T h4 hm.1 hm.2 D.length 0 0 (by omega) (by omega) (by simpa using hp)
  simpa [ints_length] using this
theorem refPlace_l0 (D T : List Nat) (h4 : D.length ≤ 4) (hl : T.length = D.length) (hv : ∀ d, d < D.length → T.getD d 0 < D.getD d 0) : ∀ (d i n : Nat), D.length - i = d → i ≤ D.length → (n + 1) * prodN (D.drop i) ≤ 1048576 →
    Ev (fun k => slabvaultref12_Place.l0 k (ints D) (ints T) (n : Int) i) ((n * prodN (D.drop i) + placeN (D.drop i) (T.drop i) : Nat) : Int) := by
  have l1 := ints_length D
  have l2 := ints_length T
  intro d
  induction d with
  | zero =>
    intro i n h hi _
    refine Ev.step (f := fun _ => some (n : Int)) (fun k => ?_) ?_
    · simp only [slabvaultref12_Place.l0]
      rw [if_neg (by omega)]
    · rw [List.drop_eq_nil_of_le (show D.length ≤ i by omega)]
      simpa [prodN, placeN] using Ev.now (n : Int)
  | succ d ih =>
    intro i n h hi hb
    have hlt : i < D.length := by omega
    rw [getD_drop D i hlt, getD_drop T i (by omega), prodN] at *
    have hs := place_step (hv i hlt) (valid_rest hv (i + 1)) hb
    rw [placeN, ← place_sum]
    refine Ev.step (f := fun k => slabvaultref12_Place.l0 k (ints D) (ints T) ((n * D.getD i 0 + T.getD i 0 : Nat) : Int) ((i + 1 : Nat) : Int)) (fun k => ?_) (ih (i + 1) _ (by omega) (by omega) hs.2)
    simp only [slabvaultref12_Place.l0]
    rw [if_pos (by omega), if_pos (by omega), if_pos (by omega), rd_ints, rd_ints, hs.1, wrap_up hlt (by omega)]
theorem refPlace_ev (D T : List Nat) (h4 : D.length ≤ 4) (hT : T ∈ lexList D) (hp : prodN D ≤ 1048576) : Ev (fun k => slabvaultref12_Place.f k (ints D) (ints T)) ((placeN D T : Nat) : Int) := by
  have hm := lex_mem D T hT
  unfold slabvaultref12_Place.f
  have := refPlace_l0 D T h4 hm.1 hm.2 D.length 0 0 (by omega) (by omega) (by simpa using hp)
  simpa using this
theorem addN_length (t S : List Nat) (h : t.length = S.length) : (addN t S).length = t.length := by simp [addN, h]
theorem addN_getD (t S : List Nat) (h : t.length = S.length) (d : Nat) (hd : d < t.length) : (addN t S).getD d 0 = t.getD d 0 + S.getD d 0 := by
  simp [addN, List.getD_eq_getElem?_getD, List.getElem?_zipWith, hd, show d < S.length by omega]
theorem addN_mix (t S : List Nat) (h : t.length = S.length) (i : Nat) (hi : i < t.length) : ((addN t S).take i ++ t.drop i).set i (t.getD i 0 + S.getD i 0) = (addN t S).take (i + 1) ++ t.drop (i + 1) := by
  have hl := addN_length t S h
  rw [List.set_append_right _ _ (by simp; omega), List.length_take, show i - min i (addN t S).length = 0 by omega, getD_drop t i hi, List.set_cons_zero, List.take_succ_eq_append_getElem (show i < (addN t S).length by omega)]
  have e := addN_getD t S h i hi
  rw [List.getD_eq_getElem?_getD, List.getElem?_eq_getElem (show i < (addN t S).length by omega), Option.getD_some] at e
  rw [e]
  simp
theorem mix_getD (t S : List Nat) (h : t.length = S.length) (i : Nat) (hi : i < t.length) : ((addN t S).take i ++ t.drop i).getD i 0 = t.getD i 0 := by
  have hl := addN_length t S h
  rw [List.getD_eq_getElem?_getD, List.getElem?_append_right (by simp; omega)]
  simp [hl, show min i t.length = i by omega, List.getD_eq_getElem?_getD]
theorem moved_l0 (t S : List Nat) (h : t.length = S.length) (h4 : t.length ≤ 4) (ht : ∀ d, t.getD d 0 ≤ 1048576) (hS : ∀ d, S.getD d 0 ≤ 1048576) : ∀ (d i : Nat), t.length - i = d → i ≤ t.length →
    Ev (fun k => grid_moved.l0 k (ints S) (ints ((addN t S).take i ++ t.drop i)) (t.length : Int) i) (ints (addN t S)) := by
  have hl := addN_length t S h
  have l2 := ints_length S
  intro d
  induction d with
  | zero =>
    intro i hd hi
    refine Ev.step (f := fun _ => some (ints (addN t S))) (fun k => ?_) (Ev.now _)
    simp only [grid_moved.l0]
    rw [if_neg (by omega), List.take_of_length_le (by omega), List.drop_eq_nil_of_le (by omega), List.append_nil]
  | succ d ih =>
    intro i hd hi
    have hlt : i < t.length := by omega
    have l1 : (ints ((addN t S).take i ++ t.drop i)).length = t.length := by rw [ints_length]; simp [hl]; omega
    have e1 := ht i
    have e2 := hS i
    refine Ev.step (f := fun k => grid_moved.l0 k (ints S) (ints ((addN t S).take (i + 1) ++ t.drop (i + 1))) (t.length : Int) ((i + 1 : Nat) : Int)) (fun k => ?_) (ih (i + 1) (by omega) (by omega))
    simp only [grid_moved.l0]
    rw [if_pos (by omega), if_pos (by omega), if_pos (by omega), if_pos (by omega), rd_ints, rd_ints, mix_getD t S h i hlt, Int.toNat_natCast,
      show wrap64 (((t.getD i 0 : Nat) : Int) + ((S.getD i 0 : Nat) : Int)) = ((t.getD i 0 + S.getD i 0 : Nat) : Int) by unfold wrap64; omega, ints_set, addN_mix t S h i hlt, wrap_up hlt (by omega)]
theorem moved_ev (t S : List Nat) (h : t.length = S.length) (h4 : t.length ≤ 4) (ht : ∀ d, t.getD d 0 ≤ 1048576) (hS : ∀ d, S.getD d 0 ≤ 1048576) : Ev (fun k => grid_moved.f k (ints t) (ints S)) (ints (addN t S)) := by
  unfold grid_moved.f slices_Clone_int_int.f
  rw [if_pos (by rw [ints_length]; omega)]
  have := moved_l0 t S h h4 ht hS t.length 0 (by omega) (by omega)
  simpa [ints_length] using this
theorem mul_cast (p Z : Nat) : ((p : Nat) : Int) * (Z : Int) = ((p * Z : Nat) : Int) := by push_cast; rfl
structure Ext (D : List Int) (E : List Nat) : Prop where
  eq : D = ints E
  len : E.length ≤ 4
  dim : ∀ d, E.getD d 0 ≤ 1048576
  prod : prodN E ≤ 1048576
  elems : elemsT D = (((prodN E : Nat) : Int), 0)
theorem prodI_ints (E : List Nat) : prodI (ints E) = ((prodN E : Nat) : Int) := by
  induction E with
  | nil => rfl
  | cons e E ih =>
    simp only [ints, List.map_cons, prodI, prodN] at ih ⊢
    rw [ih]; push_cast; rfl
theorem prodN_nought (E : List Nat) (h : E.contains 0 = true) : prodN E = 0 := by
  rw [← lex_length, lex_nought E h]; rfl
theorem ext_of {D : List Int} (h : (elemsT D).2 = 0) : Ext D (D.map Int.toNat) := by
  have h4 : ¬ (4 < D.length ∨ D.any badDim = true) := by
    intro hc
    unfold elemsT at h
    rw [if_pos hc] at h
    cases h
  have hb : D.any badDim = false := by
    cases hb : D.any badDim
    · rfl
    · exact absurd (.inr hb) h4
  have hge : ∀ x ∈ D, 0 ≤ x ∧ x ≤ 1048576 := by
    intro x hx
    obtain ⟨i, hi, rfl⟩ := List.getElem_of_mem hx
    rw [← rd_nat D i hi]
    exact good_rd hb i hi
  have he : ints (D.map Int.toNat) = D := by
    clear h h4 hb
    induction D with
    | nil => rfl
    | cons x D ih =>
      have h1 := ih (fun y hy => hge y (List.mem_cons_of_mem _ hy))
      have h2 := hge x List.mem_cons_self
      simp only [ints, List.map_cons] at h1 ⊢
      rw [h1]
      congr 1
      exact Int.toNat_of_nonneg h2.1
  have hel : elemsT D = (((prodN (D.map Int.toNat) : Nat) : Int), 0) ∧ prodN (D.map Int.toNat) ≤ 1048576 := by
    unfold elemsT at h ⊢
    rw [if_neg h4] at h ⊢
    by_cases hz : D.contains 0 = true
    · rw [if_pos hz, prodN_nought _ (by rw [← contains_ints, he]; exact hz)]
      exact ⟨rfl, by omega⟩
    · rw [if_neg hz] at h ⊢
      have h6 : prodLoop D D.length 0 1 = ((prodLoop D D.length 0 1).1, 0) := by rw [← h]
      have h7 := prodLoop_eq D D.length 0 1 _ (by omega) (by omega) (by omega) h6
      simp only [List.drop_zero, Int.one_mul] at h7
      have h8 := prodI_ints (D.map Int.toNat)
      rw [he] at h8
      rw [h6, h7.1, h8]
      exact ⟨rfl, by omega⟩
  refine ⟨he.symm, by simp; omega, fun d => ?_, hel.2, hel.1⟩
  rcases Nat.lt_or_ge d D.length with hd | hd
  · have := hge _ (List.getElem_mem hd)
    simp [List.getD_eq_getElem?_getD, hd]; omega
  · simp [List.getD_eq_getElem?_getD, hd]
theorem fit_exts {D H : List Int} (h : fitT D H = 0) : ∃ E F, Ext D E ∧ Ext H F ∧ F.length = E.length ∧ ∀ d, d < F.length → 1 ≤ F.getD d 0 := by
  have hg := good_of_fit h
  have h1 : (elemsT D).2 = 0 := by
    unfold fitT at h
    split at h
    · assumption
    · contradiction
  have h2 : (elemsT H).2 = 0 := by
    unfold fitT at h
    rw [if_pos h1, if_pos hg.same] at h
    split at h
    · cases h
    · exact h
  refine ⟨_, _, ext_of h1, ext_of h2, by simp [hg.same], fun d hd => ?_⟩
  have hd' : d < H.length := by simpa using hd
  have := hg.shape d (by have := hg.same; omega)
  rw [rd_nat H d hd'] at this
  simp [List.getD_eq_getElem?_getD, hd']; omega
def cN (d h c : Nat) : Nat := if c * h < d then c * h else d
def startN (E F C : List Nat) : List Nat := (List.range E.length).map fun i => cN (E.getD i 0) (F.getD i 0) (C.getD i 0)
def partN (E F C : List Nat) : List Nat := (List.range E.length).map fun i => min (F.getD i 0) (E.getD i 0 - cN (E.getD i 0) (F.getD i 0) (C.getD i 0))
theorem startN_getD (E F C : List Nat) (i : Nat) : (startN E F C).getD i 0 = if i < E.length then cN (E.getD i 0) (F.getD i 0) (C.getD i 0) else 0 := by
  simp only [startN, List.getD_eq_getElem?_getD, List.getElem?_map]
  split
  · rename_i h; rw [List.getElem?_range h]; rfl
  · rename_i h; rw [List.getElem?_eq_none (by simpa using h)]; rfl
theorem partN_getD (E F C : List Nat) (i : Nat) : (partN E F C).getD i 0 = if i < E.length then min (F.getD i 0) (E.getD i 0 - cN (E.getD i 0) (F.getD i 0) (C.getD i 0)) else 0 := by
  simp only [partN, List.getD_eq_getElem?_getD, List.getElem?_map]
  split
  · rename_i h; rw [List.getElem?_range h]; rfl
  · rename_i h; rw [List.getElem?_eq_none (by simpa using h)]; rfl
theorem cN_le (d h c : Nat) : cN d h c ≤ d := by unfold cN; split <;> omega
theorem clipAt_cast (d h c : Nat) : clipAt (d : Int) (h : Int) (c : Int) = ((cN d h c : Nat) : Int) := by
  unfold clipAt cN
  rw [mul_cast]
  split <;> split <;> omega
theorem clipS_ints (E F C : List Nat) : clipS (ints E) (ints F) (ints C) 0 = ints (startN E F C) := by
  simp only [clipS, startN, ints_length, Nat.sub_zero, ← List.range_eq_range', rd_ints, clipAt_cast]
  simp only [ints, List.map_map]
  rfl
theorem clipP_ints (E F C : List Nat) : clipP (ints E) (ints F) (ints C) 0 = ints (partN E F C) := by
  simp only [clipP, partN, ints_length, Nat.sub_zero, ← List.range_eq_range', rd_ints, clipAt_cast]
  simp only [ints, List.map_map]
  apply List.map_congr_left
  intro i _
  have := cN_le (E.getD i 0) (F.getD i 0) (C.getD i 0)
  simp only [Function.comp]
  show mn _ _ = ((min _ _ : Nat) : Int)
  unfold mn
  split <;> omega
structure Box (E F S P : List Nat) : Prop where
  lenS : S.length = E.length
  lenF : F.length = E.length
  lenP : P.length = E.length
  shape : ∀ d, P.getD d 0 ≤ F.getD d 0
  room : ∀ d, S.getD d 0 + P.getD d 0 ≤ E.getD d 0
theorem box_of (E F C : List Nat) (hF : F.length = E.length) : Box E F (startN E F C) (partN E F C) := by
  refine ⟨by simp [startN], hF, by simp [partN], fun d => ?_, fun d => ?_⟩
  · rw [partN_getD]
    split
    · omega
    · omega
  · rw [partN_getD, startN_getD]
    have := cN_le (E.getD d 0) (F.getD d 0) (C.getD d 0)
    split
    · omega
    · omega
theorem Box.mem {E F S P : List Nat} (h : Box E F S P) {t : List Nat} (ht : t ∈ lexList P) : t ∈ lexList F ∧ addN t S ∈ lexList E ∧ t.length = E.length := by
  have hm := lex_mem P t ht
  have h1 := h.lenS
  have h2 := h.lenF
  have h3 := h.lenP
  refine ⟨lex_of F t (by omega) (fun d hd => ?_), lex_of E _ (by rw [addN_length t S (by omega)]; omega) (fun d hd => ?_), by omega⟩
  · have := hm.2 d (by omega)
    have := h.shape d
    omega
  · rw [addN_getD t S (by omega) d (by omega)]
    have := hm.2 d (by omega)
    have := h.room d
    omega
theorem addN_snoc (s S : List Nat) (a x : Nat) (h : s.length = S.length) : addN (s ++ [a]) (S ++ [x]) = addN s S ++ [a + x] := by
  simp only [addN]
  rw [List.zipWith_append (by exact h)]
  rfl
theorem Box.toAdd {E F S P : List Nat} (h : Box E F S P) (s : List Nat) (a : Nat) (hs : s.length + 1 = P.length) : placeN F (s ++ [a]) = placeN F (s ++ [0]) + a ∧ placeN E (addN (s ++ [a]) S) = placeN E (addN (s ++ [0]) S) + a := by
  have h1 := h.lenS
  have h2 := h.lenF
  have h3 := h.lenP
  refine ⟨by simpa using placeN_last F s a 0 (by omega), ?_⟩
  rcases List.eq_nil_or_concat S with rfl | ⟨S', x, rfl⟩
  · simp at h1; omega
  · rw [List.concat_eq_append] at h1 ⊢
    have hl : s.length = S'.length := by simp at h1; omega
    rw [addN_snoc s S' a x hl, addN_snoc s S' 0 x hl, placeN_last E (addN s S') a x (by rw [addN_length s S' hl]; omega), Nat.zero_add]
end Go.Proofs.Ytjbjofmcmjojlab.Pure
end
section
namespace Go.Proofs.Ytjbjofmcmjojlab.Pure
open Go.RowKit Go.Proofs.Ytjbjofmcmjojlab.Wk Go.Proofs.YtjbjofmcmjojlabW.PrintWords Go.Proofs.YtjbjofmcmjojlabW.PrintLast Go.Proofs.YtjbjofmcmjojlabW.PrintMore Go.Proofs.YtjbjofmcmjojlabQ
theorem digit_le {E t : List Nat} (hd : ∀ d, E.getD d 0 ≤ 1048576) (ht : t ∈ lexList E) (d : Nat) : t.getD d 0 ≤ 1048576 := by
  have hm := lex_mem E t ht
  rcases Nat.lt_or_ge d E.length with h | h
  · have h1 := hm.2 d h
    have h2 := hd d
    omega
  · simp [List.getD_eq_getElem?_getD, show t.length ≤ d by omega]
theorem step_conds {p1 p2 m Z N M x n : Nat} (hZ : 1 ≤ Z) (hm : 1 ≤ m) (h1 : p1 + m ≤ N) (h2 : p2 + m ≤ M) (hx : x = N * Z) (hn : n = M * Z) (hN : N * Z ≤ 65536) (hM : M * Z ≤ 65536) :
    (0 ≤ (p1 : Int) * (Z : Int) ∧ 0 ≤ (p2 : Int) * (Z : Int) ∧ 1 ≤ (m : Int) * (Z : Int) ∧ (p1 : Int) * (Z : Int) + (m : Int) * (Z : Int) ≤ (x : Int) ∧ (p2 : Int) * (Z : Int) + (m : Int) * (Z : Int) ≤ (n : Int) ∧ (p1 : Int) * (Z : Int) + (p2 : Int) * (Z : Int) + (m : Int) * (Z : Int) + (n : Int) ≤ 1000000) := by
  have a1 : (p1 + m) * Z ≤ N * Z := Nat.mul_le_mul_right _ h1
  have a2 : (p2 + m) * Z ≤ M * Z := Nat.mul_le_mul_right _ h2
  have a3 : 1 * 1 ≤ m * Z := Nat.mul_le_mul hm hZ
  rw [Nat.add_mul] at a1 a2
  rw [mul_cast, mul_cast, mul_cast]
  omega
theorem paste_fold {D H S0 : List Int} {E F S P : List Nat} (hD : Ext D E) (hH : Ext H F) (hb : Box E F S P) (hS : ∀ d, S.getD d 0 ≤ 1048576) (hS0 : S0 = ints S) (Z : Nat) (hZ : 1 ≤ Z) (X O : List Int) (hX : X.length = prodN F * Z) (hO : O.length = prodN E * Z) (hN : prodN F * Z ≤ 65536) (hM : prodN E * Z ≤ 65536) (n : Nat) (hn : n = O.length) :
    Ev (fun k => grid_pasteFold k D S0 (Z : Int) H X n O (rowsOf (ints P))) (puts Z X O ((lexList P).map fun t => (placeN E (addN t S), placeN F t))) := by
  unfold grid_pasteFold
  rw [hD.eq, hH.eq, hS0]
  refine rows_fold (fun k => grid_pasteStep k (ints E) (ints S) (Z : Int) (ints F) X n) Z (prodN E) (prodN F) X (fun t => placeN E (addN t S)) (placeN F) P hX (fun s a hs => (hb.toAdd s a hs).symm) (fun t ht => ⟨valid_place E _ (hb.mem ht).2.1, valid_place F t (hb.mem ht).1⟩) (fun O' t m hO' hm ht h1 h2 => ?_) O hO
  have hmem := hb.mem ht
  unfold grid_pasteStep
  refine Ev.bind (place_ev F t hH.len hmem.1 hH.prod) (Ev.bind (moved_ev t S (by have := hb.lenS; omega) (by have := hD.len; omega) (fun d => digit_le hH.dim hmem.1 d) hS) ?_)
  refine Ev.bind (place_ev E _ hD.len hmem.2.1 hD.prod) ?_
  have hc := step_conds (p1 := placeN F t) (p2 := placeN E (addN t S)) hZ hm h2 h1 hX (hn.trans hO) hN hM
  simp only [if_pos hc]
  rw [mul_cast, mul_cast, mul_cast]
  simp only [Int.toNat_natCast]
  exact Ev.now _
theorem rd_L1_map (l : List (List Nat)) (i : Nat) (h : i < l.length) : rd_L1 (l.map ints) (i : Int) = ints l[i] := by
  simp [rd_L1, List.getD_eq_getElem?_getD, h]
theorem lex_take_length (D : List Nat) (hp : prodN D ≤ 1048576) (hd : ∀ d, d < D.length → 1 ≤ D.getD d 0) (i : Nat) : (lexList (D.take i)).length ≤ 1048576 := by
  rw [lex_length]
  have key : ∀ (D : List Nat) (i : Nat), (∀ d, d < D.length → 1 ≤ D.getD d 0) → prodN (D.take i) ≤ prodN D := by
    intro D
    induction D with
    | nil => intro i _; simp [prodN]
    | cons d D ih =>
      intro i hd
      have h1 := prodN_ge D (fun j hj => by simpa using hd (j + 1) (by simpa using hj))
      cases i with
      | zero =>
        have := prodN_ge (d :: D) hd
        simpa [prodN] using this
      | succ i =>
        simp only [List.take_succ_cons, prodN]
        exact Nat.mul_le_mul_left _ (ih i (fun j hj => by simpa using hd (j + 1) (by simpa using hj)))
  have := key D i hd
  omega
theorem mulLt {a b x y : Nat} (ha : a ≤ x) (hb : b ≤ y) : a * b ≤ x * y := Nat.mul_le_mul ha hb
theorem tuples_l2 (D : List Nat) (h4 : D.length ≤ 4) (hd : ∀ d, D.getD d 0 ≤ 1048576) (x3 : List (List Nat)) (hx : ∀ t ∈ x3, t.length ≤ 4) (x4 i : Nat) (h5 : x4 < D.length) (hi : i < x3.length) {r : List (List Int)} : ∀ (d j : Nat) (acc : List (List Nat)), D.getD x4 0 - j = d → j ≤ D.getD x4 0 → acc.length + d ≤ 1048576 * 1048576 →
    Ev (fun k => slabvaultref13_tuples.l1 k (ints D) (x3.map ints) x4 ((acc ++ (List.range' j d).map fun a => x3[i] ++ [a]).map ints) (wrap64 ((i : Int) + 1))) r →
    Ev (fun k => slabvaultref13_tuples.l2 k (ints D) (x3.map ints) x4 (acc.map ints) i j) r := by
  have l1 := ints_length D
  have l3 : (x3.map ints).length = x3.length := by simp
  have hlen := hx _ (List.getElem_mem hi)
  intro d
  induction d with
  | zero =>
    intro j acc hj hjl hacc hk
    refine Ev.step (fun k => ?_) hk
    simp only [slabvaultref13_tuples.l2]
    rw [if_pos (by omega), if_pos (by omega), rd_ints, if_neg (by omega)]
    simp
  | succ d ih =>
    intro j acc hj hjl hacc hk
    have hdd := hd x4
    refine Ev.step (f := fun k => slabvaultref13_tuples.l2 k (ints D) (x3.map ints) x4 ((acc ++ [x3[i] ++ [j]]).map ints) i ((j + 1 : Nat) : Int)) (fun k => ?_) (ih (j + 1) (acc ++ [x3[i] ++ [j]]) (by omega) (by omega) (by rw [List.length_append, List.length_singleton]; omega) ?_)
    · simp only [slabvaultref13_tuples.l2, Option.bind_some]
      rw [if_pos (by omega), if_pos (by omega), rd_ints, if_pos (by omega), if_pos (by omega), if_pos (by omega), rd_L1_map x3 i hi]
      have e1 : (ints x3[i]).length ≤ 4 := by rw [ints_length]; exact hlen
      have e2 : (acc.map ints).length < 5864062014805 := by rw [List.length_map]; omega
      have e3 : ([] : List Int).length + (ints x3[i]).length < 17592186044416 := by rw [List.length_nil]; omega
      have e4 : ([] ++ ints x3[i] : List Int).length < 17592186044416 := by rw [List.nil_append]; omega
      rw [if_pos e3, if_pos e4, if_pos e2, show wrap64 ((j : Int) + 1) = ((j + 1 : Nat) : Int) by unfold wrap64; omega]
      congr 1
      simp [ints]
    · rw [List.range'_succ] at hk
      simpa using hk
theorem tuples_l1 (D : List Nat) (h4 : D.length ≤ 4) (hd : ∀ d, D.getD d 0 ≤ 1048576) (x3 : List (List Nat)) (hx : ∀ t ∈ x3, t.length ≤ 4) (hl3 : x3.length ≤ 1048576) (x4 : Nat) (h5 : x4 < D.length) {r : List (List Int)} : ∀ (d i : Nat) (acc : List (List Nat)), x3.length - i = d → i ≤ x3.length → acc.length ≤ i * D.getD x4 0 →
    Ev (fun k => slabvaultref13_tuples.l0 k (ints D) ((acc ++ (x3.drop i).flatMap fun s => (List.range (D.getD x4 0)).map fun a => s ++ [a]).map ints) (wrap64 ((x4 : Int) + 1))) r →
    Ev (fun k => slabvaultref13_tuples.l1 k (ints D) (x3.map ints) x4 (acc.map ints) i) r := by
  have l3 : (x3.map ints).length = x3.length := by simp
  intro d
  induction d with
  | zero =>
    intro i acc hi hil hacc hk
    rw [List.drop_eq_nil_of_le (by omega)] at hk
    refine Ev.step (fun k => ?_) hk
    simp only [slabvaultref13_tuples.l1]
    rw [if_neg (by omega)]
    simp
  | succ d ih =>
    intro i acc hi hil hacc hk
    have hlt : i < x3.length := by omega
    have hb1 : i * D.getD x4 0 ≤ 1048576 * 1048576 := mulLt (by omega) (hd x4)
    have hb2 : (i + 1) * D.getD x4 0 ≤ 1048576 * 1048576 := mulLt (by omega) (hd x4)
    rw [Nat.add_mul, Nat.one_mul] at hb2
    refine Ev.step (f := fun k => slabvaultref13_tuples.l2 k (ints D) (x3.map ints) x4 (acc.map ints) i ((0 : Nat) : Int)) (fun k => ?_) (tuples_l2 D h4 hd x3 hx x4 i h5 hlt (D.getD x4 0) 0 acc (by omega) (by omega) (by omega) ?_)
    · simp only [slabvaultref13_tuples.l1]
      rw [if_pos (by omega)]
      rfl
    · rw [show wrap64 ((i : Int) + 1) = ((i + 1 : Nat) : Int) by unfold wrap64; omega]
      refine ih (i + 1) _ (by omega) (by omega) (by rw [List.length_append, List.length_map, List.length_range', Nat.add_mul, Nat.one_mul]; omega) ?_
      rw [List.drop_eq_getElem_cons hlt, List.flatMap_cons, ← List.append_assoc] at hk
      simpa only [List.range_eq_range'] using hk
theorem tuples_l0 (D : List Nat) (h4 : D.length ≤ 4) (hd : ∀ d, D.getD d 0 ≤ 1048576) (h1 : ∀ d, d < D.length → 1 ≤ D.getD d 0) (hp : prodN D ≤ 1048576) : ∀ (d i : Nat), D.length - i = d → i ≤ D.length →
    Ev (fun k => slabvaultref13_tuples.l0 k (ints D) ((lexList (D.take i)).map ints) i) ((lexList D).map ints) := by
  have l1 := ints_length D
  intro d
  induction d with
  | zero =>
    intro i hi hil
    rw [List.take_of_length_le (by omega)]
    refine Ev.step (f := fun _ => some ((lexList D).map ints)) (fun k => ?_) (Ev.now _)
    simp only [slabvaultref13_tuples.l0]
    rw [if_neg (by omega)]
  | succ d ih =>
    intro i hi hil
    have hlt : i < D.length := by omega
    refine Ev.step (f := fun k => slabvaultref13_tuples.l1 k (ints D) ((lexList (D.take i)).map ints) i (([] : List (List Nat)).map ints) ((0 : Nat) : Int)) (fun k => ?_) (tuples_l1 D h4 hd (lexList (D.take i)) (fun t ht => by have := (lex_mem _ _ ht).1; simp at this; omega) (lex_take_length D hp h1 i) i hlt (lexList (D.take i)).length 0 [] (by omega) (by omega) (by simp) ?_)
    · simp only [slabvaultref13_tuples.l0]
      rw [if_pos (by omega)]
      rfl
    · rw [show wrap64 ((i : Int) + 1) = ((i + 1 : Nat) : Int) by unfold wrap64; omega]
      have e : ([] ++ ((lexList (D.take i)).drop 0).flatMap fun s => (List.range (D.getD i 0)).map fun a => s ++ [a]) = lexList (D.take (i + 1)) := by
        rw [List.take_succ_eq_append_getElem hlt, lex_snoc]
        simp [List.getD_eq_getElem?_getD, hlt]
      rw [e]
      exact ih (i + 1) (by omega) (by omega)
theorem tuples_ev (D : List Nat) (h4 : D.length ≤ 4) (hd : ∀ d, D.getD d 0 ≤ 1048576) (h1 : ∀ d, d < D.length → 1 ≤ D.getD d 0) (hp : prodN D ≤ 1048576) : Ev (fun k => slabvaultref13_tuples.f k (ints D)) ((lexList D).map ints) := by
  unfold slabvaultref13_tuples.f
  have := tuples_l0 D h4 hd h1 hp D.length 0 (by omega) (by omega)
  simpa [lexList, ints] using this
end Go.Proofs.Ytjbjofmcmjojlab.Pure
end
section
namespace Go.Proofs.Ytjbjofmcmjojlab.Pure
open Go.RowKit Go.Proofs.Ytjbjofmcmjojlab.Wk Go.Proofs.YtjbjofmcmjojlabW.PrintWords Go.Proofs.YtjbjofmcmjojlabW.PrintLast Go.Proofs.YtjbjofmcmjojlabW.PrintMore Go.Proofs.YtjbjofmcmjojlabQ
theorem where_one {d h c t : Nat} (ht : t < h) (hd : d ≤ 1048576) (hh : h ≤ 1048576) (hc : c ≤ d) : wrap64 (wrap64 ((c : Int) * (h : Int)) + (t : Int)) = ((c * h + t : Nat) : Int) ∧ (t < min h (d - cN d h c) ↔ c * h + t < d) ∧ (c * h + t < d → cN d h c = c * h) := by
  have hb : c * h ≤ 1048576 * 1048576 := mulLt (by omega) hh
  rw [mul_cast]
  unfold cN
  generalize c * h = q at *
  refine ⟨by unfold wrap64; omega, ?_, fun hlt => by rw [if_pos (by omega)]⟩
  split <;> omega
theorem where_off {d h c t : Nat} (hh : 1 ≤ h) (hc : d < c) : ¬ t < min h (d - cN d h c) := by
  have : c * 1 ≤ c * h := Nat.mul_le_mul_left _ hh
  unfold cN
  rw [if_neg (by omega)]
  omega
theorem where_l0 (E F C t : List Nat) (hE : ∀ d, E.getD d 0 ≤ 1048576) (hF : ∀ d, F.getD d 0 ≤ 1048576) (hF1 : ∀ d, d < F.length → 1 ≤ F.getD d 0) (h4 : E.length ≤ 4) (hlF : F.length = E.length) (hlC : C.length = E.length) (ht : t ∈ lexList F) : ∀ (d i : Nat), E.length - i = d → i ≤ E.length →
    Ev (fun k => slabvaultref13_where.l0 k (ints E) (ints F) (ints C) (ints t) (ints ((addN t (startN E F C)).take i)) i) (if insideB ((partN E F C).drop i) (t.drop i) = true then (ints (addN t (startN E F C)), true) else ([], false)) := by
  have hm := lex_mem F t ht
  have lS : (startN E F C).length = E.length := by simp [startN]
  have lP : (partN E F C).length = E.length := by simp [partN]
  have lA := addN_length t (startN E F C) (by omega)
  have l1 := ints_length E
  have l2 := ints_length F
  have l3 := ints_length C
  have l4 := ints_length t
  intro d
  induction d with
  | zero =>
    intro i hi hil
    rw [List.drop_eq_nil_of_le (by omega), List.drop_eq_nil_of_le (by omega), List.take_of_length_le (by omega)]
    refine Ev.step (f := fun _ => some (ints (addN t (startN E F C)), true)) (fun k => ?_) (Ev.now _)
    simp only [slabvaultref13_where.l0]
    rw [if_neg (by omega)]
  | succ d ih =>
    intro i hi hil
    have hlt : i < E.length := by omega
    rw [getD_drop (partN E F C) i (by omega), getD_drop t i (by omega), partN_getD, if_pos hlt]
    have h1 := hE i
    have h2 := hF i
    have h3 := hF1 i (by omega)
    have h5 := hm.2 i (by omega)
    have l5 : (ints ((addN t (startN E F C)).take i)).length = i := by rw [ints_length, List.length_take]; omega
    have k1 : (i : Int) < ((ints E).length : Int) := by omega
    have k2 : 0 ≤ (i : Int) := by omega
    have k3 : (i : Int) < ((ints C).length : Int) := by omega
    have k4 : (i : Int) < ((ints F).length : Int) := by omega
    have k5 : (i : Int) < ((ints t).length : Int) := by omega
    have k6 : (ints ((addN t (startN E F C)).take i)).length < 17592186044416 := by omega
    have k7 := Aside0.mk (show wrap64 ((i : Int) + 1) = ((i + 1 : Nat) : Int) from wrap_up hlt (by omega))
    have k8 : i < (addN t (startN E F C)).length := by omega
    have e2 := addN_getD t (startN E F C) (by omega) i (by omega)
    rw [startN_getD, if_pos hlt] at e2
    have hih := ih (i + 1) (by omega) (by omega)
    by_cases c1 : E.getD i 0 < C.getD i 0
    · have ho := where_off (t := t.getD i 0) h3 c1
      have hI : insideB (min (F.getD i 0) (E.getD i 0 - cN (E.getD i 0) (F.getD i 0) (C.getD i 0)) :: (partN E F C).drop (i + 1)) (t.getD i 0 :: t.drop (i + 1)) = false := by rw [insideB, decide_eq_false ho, Bool.false_and]
      rw [hI]
      have c1' : ((C.getD i 0 : Nat) : Int) > ((E.getD i 0 : Nat) : Int) := by
        clear ho hI e2
        omega
      refine Ev.step (f := fun _ => some ([], false)) (fun k => ?_) (Ev.now _)
      simp only [slabvaultref13_where.l0]
      rw [if_pos k1, if_pos k2, if_pos k3, rd_ints, rd_ints, if_pos c1']
    · have c1' : ¬ ((C.getD i 0 : Nat) : Int) > ((E.getD i 0 : Nat) : Int) := by
        clear e2
        omega
      have hw := where_one h5 h1 h2 (Nat.le_of_not_lt c1)
      by_cases c2 : C.getD i 0 * F.getD i 0 + t.getD i 0 < E.getD i 0
      · have hI : insideB (min (F.getD i 0) (E.getD i 0 - cN (E.getD i 0) (F.getD i 0) (C.getD i 0)) :: (partN E F C).drop (i + 1)) (t.getD i 0 :: t.drop (i + 1)) = insideB ((partN E F C).drop (i + 1)) (t.drop (i + 1)) := by rw [insideB, decide_eq_true (hw.2.1.2 c2), Bool.true_and]
        rw [hI]
        have c2' : ¬ ((C.getD i 0 * F.getD i 0 + t.getD i 0 : Nat) : Int) ≥ ((E.getD i 0 : Nat) : Int) := fun h => Nat.not_le.2 c2 (Int.ofNat_le.1 h)
        have e : ints ((addN t (startN E F C)).take (i + 1)) = ints ((addN t (startN E F C)).take i) ++ [((C.getD i 0 * F.getD i 0 + t.getD i 0 : Nat) : Int)] := by
          rw [List.take_succ_eq_append_getElem k8]
          rw [hw.2.2 c2, List.getD_eq_getElem?_getD, List.getElem?_eq_getElem k8, Option.getD_some] at e2
          rw [e2, Nat.add_comm]
          simp [ints]
        refine Ev.step (f := fun k => slabvaultref13_where.l0 k (ints E) (ints F) (ints C) (ints t) (ints ((addN t (startN E F C)).take (i + 1))) ((i + 1 : Nat) : Int)) (fun k => ?_) hih
        simp only [slabvaultref13_where.l0]
        rw [if_pos k1, if_pos k2, if_pos k3, rd_ints, rd_ints, if_neg c1', if_pos k4, if_pos k5, rd_ints, rd_ints, hw.1, if_neg c2', if_pos k6, k7.out, e]
      · have hI : insideB (min (F.getD i 0) (E.getD i 0 - cN (E.getD i 0) (F.getD i 0) (C.getD i 0)) :: (partN E F C).drop (i + 1)) (t.getD i 0 :: t.drop (i + 1)) = false := by rw [insideB, decide_eq_false (fun h => c2 (hw.2.1.1 h)), Bool.false_and]
        rw [hI]
        have c2' : ((C.getD i 0 * F.getD i 0 + t.getD i 0 : Nat) : Int) ≥ ((E.getD i 0 : Nat) : Int) := Int.ofNat_le.2 (Nat.le_of_not_lt c2)
        refine Ev.step (f := fun _ => some ([], false)) (fun k => ?_) (Ev.now _)
        simp only [slabvaultref13_where.l0]
        rw [if_pos k1, if_pos k2, if_pos k3, rd_ints, rd_ints, if_neg c1', if_pos k4, if_pos k5, rd_ints, rd_ints, hw.1, if_pos c2']
theorem where_ev (E F C t : List Nat) (hE : ∀ d, E.getD d 0 ≤ 1048576) (hF : ∀ d, F.getD d 0 ≤ 1048576) (hF1 : ∀ d, d < F.length → 1 ≤ F.getD d 0) (h4 : E.length ≤ 4) (hlF : F.length = E.length) (hlC : C.length = E.length) (ht : t ∈ lexList F) :
    Ev (fun k => slabvaultref13_where.f k (ints E) (ints F) (ints C) (ints t)) (if insideB (partN E F C) t = true then (ints (addN t (startN E F C)), true) else ([], false)) := by
  unfold slabvaultref13_where.f
  simpa [ints] using where_l0 E F C t hE hF hF1 h4 hlF hlC ht E.length 0 (by omega) (by omega)
end Go.Proofs.Ytjbjofmcmjojlab.Pure
end
section
namespace Go.Proofs.Ytjbjofmcmjojlab.Pure
open Go.RowKit Go.Proofs.Ytjbjofmcmjojlab.Wk Go.Proofs.YtjbjofmcmjojlabW.PrintWords Go.Proofs.YtjbjofmcmjojlabW.PrintLast Go.Proofs.YtjbjofmcmjojlabW.PrintMore Go.Proofs.YtjbjofmcmjojlabQ
def sizedT (z n m : Int) : Int := if z < 1 ∨ 256 < z then 2 else if 65536 < n * z ∨ 65536 < m * z then 3 else 0
theorem wrap_size {n z : Int} (h0 : 0 ≤ n) (h1 : n ≤ 1048576) (hz : 1 ≤ z) (hz2 : z ≤ 256) : wrap64 (n * z) = n * z := by
  have a1 : 0 ≤ n * z := Int.mul_nonneg h0 (by omega)
  have a2 : n * z ≤ 1048576 * 256 := Int.mul_le_mul h1 hz2 (by omega) (by omega)
  generalize n * z = q at *
  unfold wrap64; omega
theorem sized_ev {D H : List Int} {E F : List Nat} (hD : Ext D E) (hH : Ext H F) (z : Int) : Ev (fun k => grid_sized.f k z [D, H]) (sizedT z (prodN E : Nat) (prodN F : Nat)) := by
  have r0 : rd_L1 [D, H] 0 = D := rfl
  have r1 : rd_L1 [D, H] 1 = H := rfl
  have two : ∀ k, grid_sized.j0 (k + 1) z [D, H] true = some 2 := fun k => by simp only [grid_sized.j0, if_true]
  unfold sizedT
  by_cases h1 : z < 1
  · rw [if_pos (.inl h1)]
    refine Ev.congr (f := fun k => grid_sized.j0 k z [D, H] true) (fun k => ?_) (Ev.step two (Ev.now _))
    unfold grid_sized.f
    rw [if_pos h1]
  by_cases h2 : 256 < z
  · rw [if_pos (.inr h2)]
    refine Ev.congr (f := fun k => grid_sized.j0 k z [D, H] true) (fun k => ?_) (Ev.step two (Ev.now _))
    unfold grid_sized.f
    rw [if_neg h1, decide_eq_true h2]
  rw [if_neg (by rintro (h | h) <;> contradiction)]
  have hwD := wrap_size (n := ((prodN E : Nat) : Int)) (by omega) (by have := hD.prod; omega) (show 1 ≤ z by omega) (show z ≤ 256 by omega)
  have hwH := wrap_size (n := ((prodN F : Nat) : Int)) (by omega) (by have := hH.prod; omega) (show 1 ≤ z by omega) (show z ≤ 256 by omega)
  have hD1 : (elemsT D).1 = ((prodN E : Nat) : Int) := by rw [hD.elems]
  have hH1 : (elemsT H).1 = ((prodN F : Nat) : Int) := by rw [hH.elems]
  refine Ev.congr (f := fun k => grid_sized.j0 k z [D, H] false) (fun k => ?_) (Ev.step (f := fun k => grid_sized.l0 k z [D, H] 2 0) (fun k => ?_) ?_)
  · unfold grid_sized.f
    rw [if_neg h1, decide_eq_false h2]
  · simp only [grid_sized.j0, if_neg (show ¬ (false = true) by decide), List.length_cons, List.length_nil]
    rfl
  have e1 : wrap64 ((0 : Int) + 1) = 1 := by unfold wrap64; omega
  have e2 : wrap64 ((1 : Int) + 1) = 2 := by unfold wrap64; omega
  have s0 : ∀ k, grid_sized.l0 (k + 1) z [D, H] 2 0 = if ((prodN E : Nat) : Int) * z > 65536 then some 3 else grid_sized.l0 k z [D, H] 2 1 := by
    intro k
    simp only [grid_sized.l0]
    rw [if_pos (by omega), if_pos (by omega), if_pos (by simp), r0, elements_eq]
    simp only [Option.bind_some]
    rw [hD1, hwD, e1]
  have s1 : ∀ k, grid_sized.l0 (k + 1) z [D, H] 2 1 = if ((prodN F : Nat) : Int) * z > 65536 then some 3 else grid_sized.l0 k z [D, H] 2 2 := by
    intro k
    simp only [grid_sized.l0]
    rw [if_pos (by omega), if_pos (by omega), if_pos (by simp), r1, elements_eq]
    simp only [Option.bind_some]
    rw [hH1, hwH, e2]
  have s2 : ∀ k, grid_sized.l0 (k + 1) z [D, H] 2 2 = some 0 := by
    intro k
    simp only [grid_sized.l0]
    rw [if_neg (by omega)]
  by_cases c1 : 65536 < ((prodN E : Nat) : Int) * z
  · rw [if_pos (.inl c1)]
    exact Ev.step (fun k => (s0 k).trans (if_pos c1)) (Ev.now _)
  · by_cases c2 : 65536 < ((prodN F : Nat) : Int) * z
    · rw [if_pos (.inr c2)]
      exact Ev.step (fun k => (s0 k).trans (if_neg c1)) (Ev.step (fun k => (s1 k).trans (if_pos c2)) (Ev.now _))
    · rw [if_neg (by rintro (h | h) <;> contradiction)]
      exact Ev.step (fun k => (s0 k).trans (if_neg c1)) (Ev.step (fun k => (s1 k).trans (if_neg c2)) (Ev.step s2 (Ev.now _)))
def lastT (D H c : List Int) (z x l : Int) (whole : Bool) : Int := if x = (elemsT D).1 * z ∧ l = (if whole = true then (elemsT H).1 * z else z) ∧ rightT c D.length = true then 0 else 2
def errT (D H c : List Int) (z x l : Int) (whole : Bool) : Int := if fitT D H = 0 then (if sizedT z (elemsT D).1 (elemsT H).1 = 0 then lastT D H c z x l whole else sizedT z (elemsT D).1 (elemsT H).1) else fitT D H
theorem bytes_ev (X : List Int) (z : Int) (D H c L : List Int) (whole : Bool) (lD : D.length ≤ 9223372036854775807) (lH : H.length ≤ 9223372036854775807) (lc : c.length ≤ 9223372036854775807) : Ev (fun k => slabvaultref13_bytes.f k X z D H c L whole) (errT D H c z X.length L.length whole) := by
  unfold slabvaultref13_bytes.f errT
  refine Ev.bind (refFit_ev D H lD lH) ?_
  by_cases h0 : fitT D H = 0
  case neg =>
    simp only [if_neg h0]
    exact Ev.now _
  simp only [if_pos h0]
  obtain ⟨E, F, hD, hH, -, -⟩ := fit_exts h0
  have hD1 : (elemsT D).1 = ((prodN E : Nat) : Int) := by rw [hD.elems]
  have hH1 : (elemsT H).1 = ((prodN F : Nat) : Int) := by rw [hH.elems]
  have two : ∀ k, slabvaultref13_bytes.j0 (k + 1) X z D H c L whole true = some 2 := fun k => by simp only [slabvaultref13_bytes.j0, if_true]
  by_cases h1 : z < 1
  · have e : sizedT z (elemsT D).1 (elemsT H).1 = 2 := by unfold sizedT; rw [if_pos (.inl h1)]
    rw [e, if_neg (by decide)]
    simp only [if_pos h1]
    exact Ev.step two (Ev.now _)
  by_cases h2 : 256 < z
  · have e : sizedT z (elemsT D).1 (elemsT H).1 = 2 := by unfold sizedT; rw [if_pos (.inr h2)]
    rw [e, if_neg (by decide)]
    have d2 : decide (z > 256) = true := decide_eq_true h2
    simp only [if_neg h1, d2]
    exact Ev.step two (Ev.now _)
  have d2 : decide (z > 256) = false := decide_eq_false h2
  simp only [if_neg h1, d2]
  have hwD := wrap_size (n := ((prodN E : Nat) : Int)) (by omega) (by have := hD.prod; omega) (show 1 ≤ z by omega) (show z ≤ 256 by omega)
  have hwH := wrap_size (n := ((prodN F : Nat) : Int)) (by omega) (by have := hH.prod; omega) (show 1 ≤ z by omega) (show z ≤ 256 by omega)
  refine Ev.step (f := fun k => (slabvaultref12_Elements.f k D).bind fun a => (slabvaultref12_Elements.f k H).bind fun b => (if (wrap64 (a.1 * z)) > 65536 then (slabvaultref13_bytes.j1 k X z D c L whole a.1 b.1 true) else (slabvaultref13_bytes.j1 k X z D c L whole a.1 b.1 (decide ((wrap64 (b.1 * z)) > 65536))))) (fun k => ?_) ?_
  · simp only [slabvaultref13_bytes.j0, if_neg (show ¬ (false = true) by decide)]
  refine Ev.bind (refElements_ev D lD) (Ev.bind (refElements_ev H lH) ?_)
  rw [hD1, hH1, hwD, hwH]
  have three : ∀ k, slabvaultref13_bytes.j1 (k + 1) X z D c L whole ((prodN E : Nat) : Int) ((prodN F : Nat) : Int) true = some 3 := fun k => by simp only [slabvaultref13_bytes.j1, if_true]
  by_cases c1 : 65536 < ((prodN E : Nat) : Int) * z
  · have e : sizedT z ((prodN E : Nat) : Int) ((prodN F : Nat) : Int) = 3 := by unfold sizedT; rw [if_neg (by rintro (h | h) <;> contradiction), if_pos (.inl c1)]
    rw [e, if_neg (by decide)]
    simp only [gt_iff_lt, if_pos c1]
    exact Ev.step three (Ev.now _)
  by_cases c2 : 65536 < ((prodN F : Nat) : Int) * z
  · have e : sizedT z ((prodN E : Nat) : Int) ((prodN F : Nat) : Int) = 3 := by unfold sizedT; rw [if_neg (by rintro (h | h) <;> contradiction), if_pos (.inr c2)]
    rw [e, if_neg (by decide)]
    simp only [gt_iff_lt, if_neg c1, decide_eq_true c2]
    exact Ev.step three (Ev.now _)
  have e : sizedT z ((prodN E : Nat) : Int) ((prodN F : Nat) : Int) = 0 := by unfold sizedT; rw [if_neg (by rintro (h | h) <;> contradiction), if_neg (by rintro (h | h) <;> contradiction)]
  rw [e, if_pos rfl]
  simp only [gt_iff_lt, if_neg c1, decide_eq_false c2]
  have last : ∀ want : Int, want = (if whole = true then ((prodN F : Nat) : Int) * z else z) → Ev (fun k => slabvaultref13_bytes.j2 k X z D c L ((prodN E : Nat) : Int) want) (lastT D H c z X.length L.length whole) := by
    intro want hwant
    unfold lastT
    rw [hD1, hH1, ← hwant]
    by_cases x1 : (X.length : Int) = ((prodN E : Nat) : Int) * z
    case neg =>
      rw [if_neg (fun h => x1 h.1)]
      refine Ev.step (f := fun _ => some 2) (fun k => ?_) (Ev.now _)
      simp only [slabvaultref13_bytes.j2]
      rw [hwD, if_neg x1]
    by_cases x2 : (L.length : Int) = want
    case neg =>
      rw [if_neg (fun h => x2 h.2.1)]
      refine Ev.step (f := fun _ => some 2) (fun k => ?_) (Ev.now _)
      simp only [slabvaultref13_bytes.j2]
      rw [hwD, if_pos x1, if_neg x2]
    have hopen : ∀ k, slabvaultref13_bytes.j2 (k + 1) X z D c L ((prodN E : Nat) : Int) want = (slabvaultref13_right.f k c (D.length : Int)).bind fun b => (if b = true then some 0 else some 2) := by
      intro k
      simp only [slabvaultref13_bytes.j2]
      rw [hwD, if_pos x1, if_pos x2]
    by_cases x3 : rightT c D.length = true
    · rw [if_pos ⟨x1, x2, x3⟩]
      refine Ev.step hopen (Ev.bind (refRight_ev c D.length lc) ?_)
      simp only [if_pos x3]
      exact Ev.now _
    · rw [if_neg (fun h => x3 h.2.2)]
      refine Ev.step hopen (Ev.bind (refRight_ev c D.length lc) ?_)
      simp only [if_neg x3]
      exact Ev.now _
  cases whole with
  | true =>
    refine Ev.step (f := fun k => slabvaultref13_bytes.j2 k X z D c L ((prodN E : Nat) : Int) (((prodN F : Nat) : Int) * z)) (fun k => ?_) (last _ rfl)
    simp only [slabvaultref13_bytes.j1, if_true, if_neg (show ¬ (false = true) by decide)]
    rw [hwH]
  | false =>
    refine Ev.step (f := fun k => slabvaultref13_bytes.j2 k X z D c L ((prodN E : Nat) : Int) z) (fun k => ?_) (last _ rfl)
    simp only [slabvaultref13_bytes.j1, if_neg (show ¬ (false = true) by decide)]
structure Okay (D H c : List Int) (z : Int) (x l : Nat) (whole : Bool) (E F C : List Nat) (Z : Nat) : Prop where
  extD : Ext D E
  extH : Ext H F
  lenF : F.length = E.length
  one : ∀ d, d < F.length → 1 ≤ F.getD d 0
  lenC : C.length = E.length
  co : c = ints C
  size : z = (Z : Int)
  min : 1 ≤ Z ∧ Z ≤ 256
  bigE : prodN E * Z ≤ 65536
  bigF : prodN F * Z ≤ 65536
  lenX : x = prodN E * Z
  lenL : l = if whole = true then prodN F * Z else Z
theorem ints_of {l : List Int} (h : ∀ x ∈ l, 0 ≤ x) : ints (l.map Int.toNat) = l := by
  induction l with
  | nil => rfl
  | cons x l ih =>
    have h1 := ih (fun y hy => h y (List.mem_cons_of_mem _ hy))
    simp only [ints, List.map_cons] at h1 ⊢
    rw [h1]
    congr 1
    exact Int.toNat_of_nonneg (h x List.mem_cons_self)
theorem okay_of {D H c : List Int} {z : Int} {x l : Nat} {whole : Bool} (h : errT D H c z x l whole = 0) : Okay D H c z x l whole (D.map Int.toNat) (H.map Int.toNat) (c.map Int.toNat) z.toNat := by
  unfold errT at h
  by_cases h0 : fitT D H = 0
  case neg => rw [if_neg h0] at h; contradiction
  rw [if_pos h0] at h
  have hg := good_of_fit h0
  have h1 : (elemsT D).2 = 0 := by
    have h3 := h0
    unfold fitT at h3
    split at h3
    · assumption
    · contradiction
  have h2 : (elemsT H).2 = 0 := by
    have h3 := h0
    unfold fitT at h3
    rw [if_pos h1, if_pos hg.same] at h3
    split at h3
    · cases h3
    · exact h3
  have hD := ext_of h1
  have hH := ext_of h2
  have hD1 : (elemsT D).1 = ((prodN (D.map Int.toNat) : Nat) : Int) := by rw [hD.elems]
  have hH1 : (elemsT H).1 = ((prodN (H.map Int.toNat) : Nat) : Int) := by rw [hH.elems]
  by_cases hs : sizedT z (elemsT D).1 (elemsT H).1 = 0
  case neg => rw [if_neg hs] at h; contradiction
  rw [if_pos hs] at h
  unfold lastT at h
  by_cases hl : (x : Int) = (elemsT D).1 * z ∧ (l : Int) = (if whole = true then (elemsT H).1 * z else z) ∧ rightT c D.length = true
  case neg => rw [if_neg hl] at h; exact absurd h (by decide)
  clear h
  unfold sizedT at hs
  by_cases hz : z < 1 ∨ 256 < z
  case pos => rw [if_pos hz] at hs; exact absurd hs (by decide)
  rw [if_neg hz] at hs
  by_cases hb : 65536 < (elemsT D).1 * z ∨ 65536 < (elemsT H).1 * z
  case pos => rw [if_pos hb] at hs; exact absurd hs (by decide)
  clear hs
  have hzz : z = (z.toNat : Int) := by omega
  have hz1 : 1 ≤ z.toNat ∧ z.toNat ≤ 256 := by omega
  rw [hD1, hH1, hzz, mul_cast, mul_cast] at hb
  obtain ⟨l1, l2, l3⟩ := hl
  rw [hD1] at l1
  rw [hH1] at l2
  have hr := right_of l3
  refine ⟨hD, hH, by simp [hg.same], fun d hd => ?_, by simp [hr.1], (ints_of (fun y hy => ?_)).symm, hzz, hz1, by omega, by omega, ?_, ?_⟩
  · have hd' : d < H.length := by simpa using hd
    have := hg.shape d (by have := hg.same; omega)
    rw [rd_nat H d hd'] at this
    simp [List.getD_eq_getElem?_getD, hd']; omega
  · obtain ⟨i, hi, rfl⟩ := List.getElem_of_mem hy
    rw [← rd_nat c i hi]
    exact hr.2 i hi
  · rw [hzz, mul_cast] at l1
    exact Int.ofNat_inj.1 l1
  · cases whole with
    | true =>
      simp only [if_true] at l2 ⊢
      rw [hzz, mul_cast] at l2
      exact Int.ofNat_inj.1 l2
    | false =>
      simp only [if_neg (show ¬ (false = true) by decide)] at l2 ⊢
      omega
end Go.Proofs.Ytjbjofmcmjojlab.Pure
end
section
namespace Go.Proofs.Ytjbjofmcmjojlab.Pure
open Go.RowKit Go.Proofs.Ytjbjofmcmjojlab.Wk Go.Proofs.YtjbjofmcmjojlabW.PrintWords Go.Proofs.YtjbjofmcmjojlabW.PrintLast Go.Proofs.YtjbjofmcmjojlabW.PrintMore Go.Proofs.YtjbjofmcmjojlabQ
def cutList (E F C : List Nat) : List (Nat × Nat) := (lexList (partN E F C)).map fun t => (placeN F t, placeN E (addN t (startN E F C)))
def pasteList (E F C : List Nat) : List (Nat × Nat) := (lexList (partN E F C)).map fun t => (placeN E (addN t (startN E F C)), placeN F t)
def cutR (D H c : List Int) (z : Int) (X L : List Int) : List Int := puts z.toNat X (repB (prodN (H.map Int.toNat)) L) (cutList (D.map Int.toNat) (H.map Int.toNat) (c.map Int.toNat))
def pasteR (D H c : List Int) (z : Int) (Y X : List Int) : List Int := puts z.toNat X Y (pasteList (D.map Int.toNat) (H.map Int.toNat) (c.map Int.toNat))
def cutT (X : List Int) (z : Int) (D H c L : List Int) : List Int × Int := if errT D H c z X.length L.length false = 0 then (cutR D H c z X L, 0) else ([], errT D H c z X.length L.length false)
def pasteT (Y : List Int) (z : Int) (D H c X : List Int) : List Int × Int := if errT D H c z Y.length X.length true = 0 then (pasteR D H c z Y X, 0) else ([], errT D H c z Y.length X.length true)
theorem start_le (E F C : List Nat) (hE : ∀ d, E.getD d 0 ≤ 1048576) (d : Nat) : (startN E F C).getD d 0 ≤ 1048576 := by
  rw [startN_getD]
  have h1 := cN_le (E.getD d 0) (F.getD d 0) (C.getD d 0)
  have h2 := hE d
  split <;> omega
theorem part_okay {E F C : List Nat} (hlF : F.length = E.length) (h4 : E.length ≤ 4) (hF : ∀ d, F.getD d 0 ≤ 1048576) : (ints (partN E F C)).length ≤ 4 ∧ ∀ x ∈ ints (partN E F C), 0 ≤ x ∧ x ≤ 1048576 := by
  have hb := box_of E F C hlF
  refine ⟨by rw [ints_length, hb.lenP]; exact h4, fun x hx => ?_⟩
  obtain ⟨n, hn, rfl⟩ := List.mem_map.1 hx
  obtain ⟨i, hi, rfl⟩ := List.getElem_of_mem hn
  have h1 := hb.shape i
  have h2 := hF i
  rw [List.getD_eq_getElem?_getD, List.getElem?_eq_getElem hi, Option.getD_some] at h1
  exact ⟨Int.natCast_nonneg _, Int.ofNat_le.2 (Nat.le_trans h1 h2)⟩
theorem okay_clip {D H c : List Int} {z : Int} {x l : Nat} {whole : Bool} {E F C : List Nat} {Z : Nat} (h : Okay D H c z x l whole E F C Z) (h0 : fitT D H = 0) (hH : H.length ≤ maxLen) (hc : c.length ≤ maxLen) : Ev (fun k => grid_Clip.f k D H c) (ints (startN E F C), ints (partN E F C), 0) := by
  have he := clip_ev D H c hH hc
  have e1 : c.length = D.length := by rw [h.co, h.extD.eq, ints_length, ints_length]; exact h.lenC
  rw [clipT_ok h0 e1 (fun i hi => by rw [h.co, rd_ints]; exact Int.natCast_nonneg _)] at he
  rw [h.co, h.extD.eq, h.extH.eq] at he ⊢
  rw [clipS_ints, clipP_ints] at he
  exact he
theorem okay_right {D H c : List Int} {z : Int} {x l : Nat} {whole : Bool} (h : errT D H c z x l whole = 0) : fitT D H = 0 ∧ sizedT z (elemsT D).1 (elemsT H).1 = 0 ∧ (x : Int) = (elemsT D).1 * z ∧ (l : Int) = (if whole = true then (elemsT H).1 * z else z) ∧ rightT c D.length = true := by
  unfold errT at h
  by_cases h0 : fitT D H = 0
  case neg => rw [if_neg h0] at h; contradiction
  rw [if_pos h0] at h
  by_cases hs : sizedT z (elemsT D).1 (elemsT H).1 = 0
  case neg => rw [if_neg hs] at h; contradiction
  rw [if_pos hs] at h
  unfold lastT at h
  by_cases hl : (x : Int) = (elemsT D).1 * z ∧ (l : Int) = (if whole = true then (elemsT H).1 * z else z) ∧ rightT c D.length = true
  case neg => rw [if_neg hl] at h; exact absurd h (by decide)
  exact ⟨h0, hs, hl⟩
theorem sized_wraps {D H : List Int} {E F : List Nat} (hD : Ext D E) (hH : Ext H F) {z : Int} (h : sizedT z (elemsT D).1 (elemsT H).1 = 0) : wrap64 ((elemsT D).1 * z) = (elemsT D).1 * z ∧ wrap64 ((elemsT H).1 * z) = (elemsT H).1 * z := by
  have hD1 : (elemsT D).1 = ((prodN E : Nat) : Int) := by rw [hD.elems]
  have hH1 : (elemsT H).1 = ((prodN F : Nat) : Int) := by rw [hH.elems]
  have hz : ¬ (z < 1 ∨ 256 < z) := by
    intro hz
    unfold sizedT at h
    rw [if_pos hz] at h
    exact absurd h (by decide)
  have p1 := hD.prod
  have p2 := hH.prod
  rw [hD1, hH1]
  exact ⟨wrap_size (by omega) (by omega) (by omega) (by omega), wrap_size (by omega) (by omega) (by omega) (by omega)⟩
theorem refused {D H c : List Int} {z x l : Int} {whole : Bool} (h : ¬ errT D H c z x l whole = 0) : (¬ fitT D H = 0 ∧ errT D H c z x l whole = fitT D H) ∨ (fitT D H = 0 ∧ ¬ sizedT z (elemsT D).1 (elemsT H).1 = 0 ∧ errT D H c z x l whole = sizedT z (elemsT D).1 (elemsT H).1) ∨
    (fitT D H = 0 ∧ sizedT z (elemsT D).1 (elemsT H).1 = 0 ∧ ¬ (x = (elemsT D).1 * z ∧ l = (if whole = true then (elemsT H).1 * z else z) ∧ rightT c D.length = true) ∧ errT D H c z x l whole = 2) := by
  unfold errT at h ⊢
  by_cases h0 : fitT D H = 0
  case neg => rw [if_neg h0]; exact .inl ⟨h0, rfl⟩
  rw [if_pos h0] at h ⊢
  by_cases hs : sizedT z (elemsT D).1 (elemsT H).1 = 0
  case neg => rw [if_neg hs]; exact .inr (.inl ⟨h0, hs, rfl⟩)
  rw [if_pos hs] at h ⊢
  unfold lastT at h ⊢
  by_cases hl : x = (elemsT D).1 * z ∧ l = (if whole = true then (elemsT H).1 * z else z) ∧ rightT c D.length = true
  case pos => rw [if_pos hl] at h; exact absurd rfl h
  rw [if_neg hl]
  exact .inr (.inr ⟨h0, hs, hl, rfl⟩)
end Go.Proofs.Ytjbjofmcmjojlab.Pure
end
