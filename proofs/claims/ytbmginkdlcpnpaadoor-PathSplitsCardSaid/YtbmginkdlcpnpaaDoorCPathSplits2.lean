-- Texts that the row PathSplits leans on, joined by wip/tools/mkclaim.py: Wk46, Wk48, Wk55, Plain17, Plain17b, Wk13, Wk44, Wk47, Wk49, Wk50, Wk51, Wk54, Wk56, Wk57, Plain17c
import Derived.Test.YtbmginkdlcpnpaaDoorCPathSplits1
section
namespace Go.Proofs.YtbmginkdlcpnpaaDoor.Wk
open Go.RowKit Go.Proofs.YtbmginkdlcpnpaaDoorW.PrintWords Go.Proofs.YtbmginkdlcpnpaaDoorW.PrintLast Go.Proofs.YtbmginkdlcpnpaaDoorW.PrintMore
attribute [local go_sem] max2_int min2_int max_two min_two max_three min_three max_four min_four
set_option linter.unusedVariables false
set_option linter.unusedSimpArgs false
mutual
def slabvaultref17_Parse.j0 : Nat → ByteArray → Bool → Option (List ByteArray × Int × Int)
  | 0, _, _ => none
  | k + 1, x0, x18 => if x18 = true then (some (([] : List ByteArray), 0, 9)) else ((slabvaultref17_parts.f k x0).bind fun t135 => (slabvaultref17_Parse.l0 k ([] : List ByteArray) t135 0))
def slabvaultref17_Parse.l0 : Nat → List ByteArray → List ByteArray → Int → Option (List ByteArray × Int × Int)
  | 0, _, _, _ => none
  | k + 1, x5, x6, x7 => if x7 < (x6.length : Int) then (if 0 ≤ x7 then (if (rdOf ByteArray.empty x6 x7).toList = ([] : List UInt8) then (slabvaultref17_Parse.j2 k x5 x6 x7 true) else (slabvaultref17_Parse.j2 k x5 x6 x7 ((rdOf ByteArray.empty x6 x7).toList == ([46] : List UInt8)))) else (none)) else (some (x5, 0, 0))
def slabvaultref17_Parse.j2 : Nat → List ByteArray → List ByteArray → Int → Bool → Option (List ByteArray × Int × Int)
  | 0, _, _, _, _ => none
  | k + 1, x5, x6, x7, x38 => if x38 = true then (slabvaultref17_Parse.l0 k x5 x6 (wrap64 (x7 + 1))) else (if 0 ≤ x7 then (if x7 < (x6.length : Int) then ((slabvaultref09_Name.f k (rdOf ByteArray.empty x6 x7)).bind fun t141 => (if t141 = true then (if (x5.length : Int) = 16 then (some (([] : List ByteArray), 16, 3)) else (if x5.length < 8796093022208 then (slabvaultref17_Parse.l0 k (x5 ++ [rdOf ByteArray.empty x6 x7]) x6 (wrap64 (x7 + 1))) else (none))) else (some (([] : List ByteArray), (x5.length : Int), 8)))) else (none)) else (none))
end
def slabvaultref17_Parse.f (k : Nat) (a0 : ByteArray) : Option (List ByteArray × Int × Int) := if (a0.size : Int) > 1024 then (some (([] : List ByteArray), 0, 3)) else (if (a0.size : Int) = 0 then (slabvaultref17_Parse.j0 k a0 true) else (if 0 < (a0.size : Int) then (slabvaultref17_Parse.j0 k a0 ((bt a0 0) != 47)) else (none)))
set_option maxHeartbeats 8000000 in
set_option maxRecDepth 100000 in
theorem slabvaultref17_Parse.calls (k : Nat) (a0 : ByteArray) (r1 : List ByteArray) (r2 : Int) (r3 : Int) (w : World) (h : slabvaultref17_Parse.f k a0 = some (r1, r2, r3)) :
    Calls Tryd.prog 14 #[.string a0] w fun e w' => ∃ v0_ : Value, e = .returned (.tuple #[v0_, .int .i64 r2, .int .i64 r3]) ∧ Kd.R Kd.string 9 w' w.heap.size (fun _ => True) v0_ r1 ∧ Below w.heap.size w w' := by
  have HB := Aside0.mk (Below.refl w.heap.size w)
  have H : (if (a0.size : Int) > 1024 then (some (([] : List ByteArray), 0, 3)) else (if (a0.size : Int) = 0 then (slabvaultref17_Parse.j0 k a0 true) else (if 0 < (a0.size : Int) then (slabvaultref17_Parse.j0 k a0 ((bt a0 0) != 47)) else (none)))) = some (r1, r2, r3) := h
  clear h
  by_cases c2 : (a0.size : Int) > 1024
  · rw [if_pos c2] at H
    have c2b0 : decide (1024 < (a0.size : Int)) = true := decide_eq_true c2
    have c2b1 : decide (1024 < a0.size) = true := decide_eq_true (by omega)
    clear c2
    simp only [Option.some.injEq, Prod.mk.injEq] at H
    obtain ⟨rfl, rfl, rfl⟩ := H
    go_enter Tryd.func14, Tryd.ntmps14
    go_wp2
    go_ret3
    exact ⟨_, by first | rfl | (simp [errW_none, errW_some] <;> rfl) | (simp [*, errW_none, errW_some] <;> rfl), by first | exact Kd.R_nil _ _ _ _ _ | exact Kd.N_nil _ _ _ _ _ | exact Kd.V_nil _ _ _ _ _ | exact Kd.Q_nil _ _ _ _ _ | exact Kd.S_nil _ _ _ _ _, by repeat (first | (with_reducible first | exact HB.out | apply below_alloc | apply pw_below_drewN | apply below_drew1) | exact HB.out)⟩
  · rw [if_neg c2] at H
    have c2b0 : decide (1024 < (a0.size : Int)) = false := decide_eq_false c2
    have c2b1 : decide (1024 < a0.size) = false := decide_eq_false (by omega)
    clear c2
    have HC3 := Aside0.mk H
    clear H
    go_enter Tryd.func14, Tryd.ntmps14
    go_upto_region 3 with (fail)
    go_cut [18] (fun v18 wc => ∃ (kq : Nat) (x18_2 : Bool), v18 = .bool x18_2 ∧ Aside0 (slabvaultref17_Parse.j0 kq a0 x18_2 = some (r1, r2, r3)) ∧ Aside0 (kq ≤ k) ∧ Aside0 (Below w.heap.size w wc))
    case first =>
      have H := HC3.out
      clear HC3
      by_cases c4 : (a0.size : Int) = 0
      · rw [if_pos c4] at H
        have c4b0 : ((a0.size : Int) == 0) = true := beq_iff_eq.mpr c4
        have c4b1 : ((a0.size : Int) != 0) = false := bne_eq_false_iff_eq.mpr c4
        clear c4
        (first | rw [c4b0] | (simp only [i64_w, i32_w]; rw [c4b0]) | skip)
        have H' := Aside0.mk H
        clear H
        go_wp2
        go_meet
        case rel => exact ⟨_, (true), (by first | rfl | (simp; done) | (simp [*]; done)), H', ⟨by first | omega | exact Nat.le_refl _⟩, ⟨by repeat (first | (with_reducible first | exact HB.out | apply below_alloc | apply pw_below_drewN | apply below_drew1) | exact HB.out)⟩⟩
      · rw [if_neg c4] at H
        have c4b0 : ((a0.size : Int) == 0) = false := beq_eq_false_iff_ne.mpr c4
        have c4b1 : ((a0.size : Int) != 0) = true := bne_iff_ne.mpr c4
        (first | rw [c4b0] | (simp only [i64_w, i32_w]; rw [c4b0]) | skip)
        by_cases c5 : 0 < (a0.size : Int)
        · rw [if_pos c5] at H
          have c5b0 : decide (0 < (a0.size : Int)) = true := decide_eq_true c5
          have c5b1 : decide (0 < a0.size) = true := decide_eq_true (by omega)
          clear c5
          have H' := Aside0.mk H
          clear H
          have p6 : 0 ≤ (0 : Int) := (by omega)
          have q6 : 0 < a0.size := (by have : (0 : Int) < (a0.size : Int) := of_decide_eq_true (by first | (with_reducible assumption) | assumption); omega)
          have hx6 : ∀ h : 0 < a0.size, ((a0[0]'h).toNat : Int) = bt a0 0 := bt_at a0 0
          clear p6
          have qi6 : (0 < (a0.size : Int)) = True := eq_true (of_decide_eq_true (by first | (with_reducible assumption) | assumption))
          replace q6 := eq_true q6
          go_wp2
          go_meet
          case rel => exact ⟨_, (((bt a0 0) != 47)), (by first | rfl | (simp; done) | (simp [*]; done)), H', ⟨by first | omega | exact Nat.le_refl _⟩, ⟨by repeat (first | (with_reducible first | exact HB.out | apply below_alloc | apply pw_below_drewN | apply below_drew1) | exact HB.out)⟩⟩
        · rw [if_neg c5] at H
          exact absurd H (by simp)
    case rest =>
      clear HC3
      try clear c1
      try clear c2
      try clear c2b0
      try clear c2b1
      try clear p2
      try clear c4
      try clear c4b0
      try clear c4b1
      try clear c5
      try clear c5b0
      try clear c5b1
      try clear p6
      try clear q6
      try clear hx6
      try clear qi6
      try clear p6
      try clear q6
      obtain ⟨kq, x18_2, rfl, HA, HJ2, HB⟩ := hcut
      cases kq with
      | zero => exact absurd HA.out (by simp [slabvaultref17_Parse.j0])
      | succ kj2 =>
        have H := HA.out
        clear HA
        simp only [slabvaultref17_Parse.j0] at H
        by_cases c7 : x18_2 = true
        · subst c7
          have H1 : (some (([] : List ByteArray), 0, 9)) = some (r1, r2, r3) := by rw [if_pos rfl] at H; exact H
          clear H
          have H := H1
          clear H1
          simp only [Option.some.injEq, Prod.mk.injEq] at H
          obtain ⟨rfl, rfl, rfl⟩ := H
          go_wp2
          go_ret3
          exact ⟨_, by first | rfl | (simp [errW_none, errW_some] <;> rfl) | (simp [*, errW_none, errW_some] <;> rfl), by first | exact Kd.R_nil _ _ _ _ _ | exact Kd.N_nil _ _ _ _ _ | exact Kd.V_nil _ _ _ _ _ | exact Kd.Q_nil _ _ _ _ _ | exact Kd.S_nil _ _ _ _ _, by repeat (first | (with_reducible first | exact HB.out | apply below_alloc | apply pw_below_drewN | apply below_drew1) | exact HB.out)⟩
        · replace c7 := Bool.eq_false_iff.mpr c7
          subst c7
          have H1 : ((slabvaultref17_parts.f kj2 a0).bind fun t135 => (slabvaultref17_Parse.l0 kj2 ([] : List ByteArray) t135 0)) = some (r1, r2, r3) := by rw [if_neg (show ¬ (false = true) by decide)] at H; exact H
          clear H
          have H := H1
          clear H1
          replace H := Option.bind_eq_some_iff.mp H
          obtain ⟨t135, A80, H⟩ := H
          replace H : (slabvaultref17_Parse.l0 kj2 ([] : List ByteArray) t135 0) = some (r1, r2, r3) := H
          have A8 := Aside0.mk A80
          clear A80
          have H' := Aside0.mk H
          clear H
          go_wp2_with (first | ((with_reducible refine gate_callee (f := 23) rfl ?_); refine goesL_ (some 20) rfl rfl Tryd.func23 (by kernel_rfl) rfl #[.string a0] rfl (by (try simp only [List.map_toArray, List.map_cons, List.map_nil]); first | done | rfl | (simp only [List.length_drop, List.length_take]; rfl)) ?_; (with_reducible refine (slabvaultref17_parts.calls kj2 a0 t135 _ A8.out).mono ?_); rintro e w9 ⟨v136, rfl, ho0, hb⟩; refine ⟨_, rfl, ?_⟩; have n0_ := Aside0.mk (Kd.R_lower ho0 (below_size (by repeat (first | (with_reducible first | exact HB.out | apply below_alloc | apply pw_below_drewN | apply below_drew1) | exact HB.out)))); have n1_ := Aside0.mk (below_step (by repeat (first | (with_reducible first | exact HB.out | apply below_alloc | apply pw_below_drewN | apply below_drew1) | exact HB.out)) hb); clear HB; have HO137 := n0_; have HB := n1_; clear n0_ n1_; (try clear hb); (try clear hb2); (try clear hk); (try clear hi); (try clear ho0)))
          go_loopg [5, 7] kj2 (fun kq v5 v7 w' => ∃ (x5_2 : List ByteArray) (x7_2 : Int), v7 = .int .i64 x7_2 ∧ Aside0 (slabvaultref17_Parse.l0 kq x5_2 t135 x7_2 = some (r1, r2, r3)) ∧ Aside0 (kq ≤ kj2) ∧ Aside0 (Kd.R Kd.string 9 w' w.heap.size (fun k_ => some k_ ≠ (v136 : Value).ownBlock) v5 x5_2) ∧ Aside0 (Kd.R Kd.string 9 w' w.heap.size (fun k_ => some k_ ≠ (v5 : Value).ownBlock) v136 t135) ∧ Aside0 (Below w.heap.size w w'))
          case atStart => exact ⟨(([] : List ByteArray)), (0), (by first | rfl | (simp; done) | (simp [*]; done)), H', ⟨Nat.le_refl _⟩, ⟨by first | exact Kd.R_nil _ _ _ _ _ | exact Kd.N_nil _ _ _ _ _ | exact Kd.V_nil _ _ _ _ _ | exact Kd.Q_nil _ _ _ _ _ | exact Kd.S_nil _ _ _ _ _⟩, ⟨by (with_reducible repeat (first | apply Kd.R_alloc | apply Kd.R_drewN | apply Kd.R_drew)); exact Kd.R_mono HO137.out (fun _ hk => (by simp [Value.ownBlock]))⟩, ⟨by repeat (first | (with_reducible first | exact HB.out | apply below_alloc | apply pw_below_drewN | apply below_drew1) | exact HB.out)⟩⟩
          case round =>
            clear H'
            try clear c1
            try clear c2
            try clear c2b0
            try clear c2b1
            try clear p2
            try clear c4
            try clear c4b0
            try clear c4b1
            try clear c5
            try clear c5b0
            try clear c5b1
            try clear p6
            try clear q6
            try clear hx6
            try clear qi6
            try clear c7
            try clear p2
            try clear p6
            try clear q6
            obtain ⟨x5_2, x7_2, rfl, HA, HK2, HO_5, HO_6, HB⟩ := hrel
            cases gk with
            | zero => exact absurd HA.out (by simp [slabvaultref17_Parse.l0])
            | succ k2 =>
              have H := HA.out
              clear HA
              simp only [slabvaultref17_Parse.l0] at H
              by_cases c10 : x7_2 < (t135.length : Int)
              · rw [if_pos c10] at H
                have c10b0 : decide (x7_2 < (t135.length : Int)) = true := decide_eq_true c10
                clear c10
                have HC11 := Aside0.mk H
                clear H
                obtain ⟨Ao12, co12, eo12⟩ := Kd.R_slice HO_6.out
                subst eo12
                go_upto_region 10 with (fail)
                go_cut [38] (fun v38 wc => ∃ (kq : Nat) (x38_10 : Bool), v38 = .bool x38_10 ∧ Aside0 (slabvaultref17_Parse.j2 kq x5_2 t135 x7_2 x38_10 = some (r1, r2, r3)) ∧ Aside0 (kq ≤ k2) ∧ Aside0 (Kd.R Kd.string 9 wc w.heap.size (fun k_ => some k_ ≠ ((.slice Ao12 t135.length co12) : Value).ownBlock) u5 x5_2) ∧ Aside0 (Kd.R Kd.string 9 wc w.heap.size (fun k_ => some k_ ≠ (u5 : Value).ownBlock) (.slice Ao12 t135.length co12) t135) ∧ Aside0 (Below w.heap.size w wc))
                case first =>
                  have H := HC11.out
                  clear HC11
                  by_cases c13 : 0 ≤ x7_2
                  · rw [if_pos c13] at H
                    have c13b0 : decide (0 ≤ x7_2) = true := decide_eq_true c13
                    clear c13
                    (first | rw [c13b0] | (simp only [i64_w, i32_w]; rw [c13b0]) | skip)
                    by_cases c14 : (rdOf ByteArray.empty t135 x7_2).toList = ([] : List UInt8)
                    · rw [if_pos c14] at H
                      have c14b0 : ((rdOf ByteArray.empty t135 x7_2).toList == ([] : List UInt8)) = true := beq_iff_eq.mpr c14
                      have c14b1 : ((rdOf ByteArray.empty t135 x7_2).toList != ([] : List UInt8)) = false := bne_eq_false_iff_eq.mpr c14
                      clear c14
                      have H' := Aside0.mk H
                      clear H
                      have p138 : 0 ≤ (x7_2 : Int) := of_decide_eq_true (by first | (with_reducible assumption) | assumption)
                      have q138 : x7_2 < (t135.length : Int) := of_decide_eq_true (by first | (with_reducible assumption) | assumption)
                      obtain ⟨ad138, e138, hx138_0⟩ := Kd.at_string (Kd.R_reads' HO_6.out).2.2 x7_2 p138 q138
                      cases e138
                      replace p138 := eq_true p138
                      replace q138 := eq_true q138
                      go_wp2
                      go_meet
                      case rel => exact ⟨_, (true), (by first | rfl | (simp; done) | (simp [*]; done)), H', ⟨by have := HJ2.out; have := HK2.out; first | omega | exact Nat.le_refl _⟩, ⟨by (with_reducible repeat (first | apply Kd.R_alloc | apply Kd.R_drewN | apply Kd.R_drew)); exact HO_5.out⟩, ⟨by (with_reducible repeat (first | apply Kd.R_alloc | apply Kd.R_drewN | apply Kd.R_drew)); exact HO_6.out⟩, ⟨by repeat (first | (with_reducible first | exact HB.out | apply below_alloc | apply pw_below_drewN | apply below_drew1) | exact HB.out)⟩⟩
                    · rw [if_neg c14] at H
                      have c14b0 : ((rdOf ByteArray.empty t135 x7_2).toList == ([] : List UInt8)) = false := beq_eq_false_iff_ne.mpr c14
                      have c14b1 : ((rdOf ByteArray.empty t135 x7_2).toList != ([] : List UInt8)) = true := bne_iff_ne.mpr c14
                      have H' := Aside0.mk H
                      clear H
                      have p138 : 0 ≤ (x7_2 : Int) := of_decide_eq_true (by first | (with_reducible assumption) | assumption)
                      have q138 : x7_2 < (t135.length : Int) := of_decide_eq_true (by first | (with_reducible assumption) | assumption)
                      obtain ⟨ad138, e138, hx138_0⟩ := Kd.at_string (Kd.R_reads' HO_6.out).2.2 x7_2 p138 q138
                      cases e138
                      replace p138 := eq_true p138
                      replace q138 := eq_true q138
                      have p139 : 0 ≤ (x7_2 : Int) := of_decide_eq_true (by first | (with_reducible assumption) | assumption)
                      have q139 : x7_2 < (t135.length : Int) := of_decide_eq_true (by first | (with_reducible assumption) | assumption)
                      obtain ⟨ad139, e139, hx139_0⟩ := Kd.at_string (Kd.R_reads' HO_6.out).2.2 x7_2 p139 q139
                      obtain rfl : ad138 = ad139 := (by injection e139)
                      replace p139 := eq_true p139
                      replace q139 := eq_true q139
                      go_wp2
                      go_meet
                      case rel => exact ⟨_, (((rdOf ByteArray.empty t135 x7_2).toList == ([46] : List UInt8))), (by first | rfl | (simp; done) | (simp [*]; done)), H', ⟨by have := HJ2.out; have := HK2.out; first | omega | exact Nat.le_refl _⟩, ⟨by (with_reducible repeat (first | apply Kd.R_alloc | apply Kd.R_drewN | apply Kd.R_drew)); exact HO_5.out⟩, ⟨by (with_reducible repeat (first | apply Kd.R_alloc | apply Kd.R_drewN | apply Kd.R_drew)); exact HO_6.out⟩, ⟨by repeat (first | (with_reducible first | exact HB.out | apply below_alloc | apply pw_below_drewN | apply below_drew1) | exact HB.out)⟩⟩
                  · rw [if_neg c13] at H
                    exact absurd H (by simp)
                case rest =>
                  clear HC11
                  try clear c1
                  try clear p1
                  try clear q1
                  try clear hx1
                  try clear c2
                  try clear c2b0
                  try clear c2b1
                  try clear p2
                  try clear c4
                  try clear c4b0
                  try clear c4b1
                  try clear c5
                  try clear c5b0
                  try clear c5b1
                  try clear p6
                  try clear q6
                  try clear hx6
                  try clear qi6
                  try clear c7
                  try clear c10
                  try clear c10b0
                  try clear c13
                  try clear c13b0
                  try clear p13
                  try clear q13
                  try clear hx13
                  try clear c14
                  try clear c14b0
                  try clear c14b1
                  try clear hx138_0
                  try clear hx139_0
                  try clear p138
                  try clear p139
                  try clear p2
                  try clear p6
                  try clear q138
                  try clear q139
                  try clear q6
                  obtain ⟨kq, x38_10, rfl, HA, HJ10, HO_5, HO_6, HB⟩ := hcut
                  cases kq with
                  | zero => exact absurd HA.out (by simp [slabvaultref17_Parse.j2])
                  | succ kj10 =>
                    have H := HA.out
                    clear HA
                    simp only [slabvaultref17_Parse.j2] at H
                    by_cases c15 : x38_10 = true
                    · subst c15
                      have H1 : (slabvaultref17_Parse.l0 kj10 x5_2 t135 (wrap64 (x7_2 + 1))) = some (r1, r2, r3) := by rw [if_pos rfl] at H; exact H
                      clear H
                      have H := H1
                      clear H1
                      have H' := Aside0.mk H
                      clear H
                      go_wp2
                      go_roundg kj10
                      case measure => have := HJ2.out; have := HK2.out; have := HJ10.out; omega
                      case rel => exact ⟨(x5_2), (wrap64 (x7_2 + 1)), (by first | rfl | (simp; done) | (simp [*]; done)), H', ⟨by have := HJ2.out; have := HK2.out; have := HJ10.out; omega⟩, ⟨by (with_reducible repeat (first | apply Kd.R_alloc | apply Kd.R_drewN | apply Kd.R_drew)); exact HO_5.out⟩, ⟨by (with_reducible repeat (first | apply Kd.R_alloc | apply Kd.R_drewN | apply Kd.R_drew)); exact HO_6.out⟩, ⟨by repeat (first | (with_reducible first | exact HB.out | apply below_alloc | apply pw_below_drewN | apply below_drew1) | exact HB.out)⟩⟩
                    · replace c15 := Bool.eq_false_iff.mpr c15
                      subst c15
                      have H1 : (if 0 ≤ x7_2 then (if x7_2 < (t135.length : Int) then ((slabvaultref09_Name.f kj10 (rdOf ByteArray.empty t135 x7_2)).bind fun t141 => (if t141 = true then (if (x5_2.length : Int) = 16 then (some (([] : List ByteArray), 16, 3)) else (if x5_2.length < 8796093022208 then (slabvaultref17_Parse.l0 kj10 (x5_2 ++ [rdOf ByteArray.empty t135 x7_2]) t135 (wrap64 (x7_2 + 1))) else (none))) else (some (([] : List ByteArray), (x5_2.length : Int), 8)))) else (none)) else (none)) = some (r1, r2, r3) := by rw [if_neg (show ¬ (false = true) by decide)] at H; exact H
                      clear H
                      have H := H1
                      clear H1
                      by_cases c16 : 0 ≤ x7_2
                      · rw [if_pos c16] at H
                        have c16b0 : decide (0 ≤ x7_2) = true := decide_eq_true c16
                        clear c16
                        by_cases c17 : x7_2 < (t135.length : Int)
                        · rw [if_pos c17] at H
                          have c17b0 : decide (x7_2 < (t135.length : Int)) = true := decide_eq_true c17
                          clear c17
                          replace H := Option.bind_eq_some_iff.mp H
                          obtain ⟨t141, A180, H⟩ := H
                          replace H : (if t141 = true then (if (x5_2.length : Int) = 16 then (some (([] : List ByteArray), 16, 3)) else (if x5_2.length < 8796093022208 then (slabvaultref17_Parse.l0 kj10 (x5_2 ++ [rdOf ByteArray.empty t135 x7_2]) t135 (wrap64 (x7_2 + 1))) else (none))) else (some (([] : List ByteArray), (x5_2.length : Int), 8))) = some (r1, r2, r3) := H
                          have A18 := Aside0.mk A180
                          clear A180
                          by_cases c19 : t141 = true
                          · subst c19
                            have H1 : (if (x5_2.length : Int) = 16 then (some (([] : List ByteArray), 16, 3)) else (if x5_2.length < 8796093022208 then (slabvaultref17_Parse.l0 kj10 (x5_2 ++ [rdOf ByteArray.empty t135 x7_2]) t135 (wrap64 (x7_2 + 1))) else (none))) = some (r1, r2, r3) := by rw [if_pos rfl] at H; exact H
                            clear H
                            have H := H1
                            clear H1
                            by_cases c20 : (x5_2.length : Int) = 16
                            · rw [if_pos c20] at H
                              have c20b0 : ((x5_2.length : Int) == 16) = true := beq_iff_eq.mpr c20
                              have c20b1 : ((x5_2.length : Int) != 16) = false := bne_eq_false_iff_eq.mpr c20
                              clear c20
                              simp only [Option.some.injEq, Prod.mk.injEq] at H
                              obtain ⟨rfl, rfl, rfl⟩ := H
                              have p140 : 0 ≤ (x7_2 : Int) := of_decide_eq_true (by first | (with_reducible assumption) | assumption)
                              have q140 : x7_2 < (t135.length : Int) := of_decide_eq_true (by first | (with_reducible assumption) | assumption)
                              obtain ⟨ad140, e140, hx140_0⟩ := Kd.at_string (Kd.R_reads' HO_6.out).2.2 x7_2 p140 q140
                              cases e140
                              replace p140 := eq_true p140
                              replace q140 := eq_true q140
                              go_wp2_with (first | ((with_reducible refine gate_callee (f := 11) rfl ?_); refine goesL_ (some 43) rfl rfl Tryd.func11 (by kernel_rfl) rfl #[.string (rdOf ByteArray.empty t135 x7_2)] rfl (by (try simp only [List.map_toArray, List.map_cons, List.map_nil]); first | done | rfl | (simp only [List.length_drop, List.length_take]; rfl)) ?_; (with_reducible refine (slabvaultref09_Name.calls kj10 (rdOf ByteArray.empty t135 x7_2) true _ A18.out).mono ?_); rintro e w' ⟨rfl, ⟨nd, rfl⟩⟩; refine ⟨_, rfl, ?_⟩; obtain ⟨Ao21, co21, eo21⟩ := Kd.R_slice HO_5.out; subst eo21))
                              go_ret3
                              exact ⟨_, by first | rfl | (simp [errW_none, errW_some] <;> rfl) | (simp [*, errW_none, errW_some] <;> rfl), by first | exact Kd.R_nil _ _ _ _ _ | exact Kd.N_nil _ _ _ _ _ | exact Kd.V_nil _ _ _ _ _ | exact Kd.Q_nil _ _ _ _ _ | exact Kd.S_nil _ _ _ _ _, by repeat (first | (with_reducible first | exact HB.out | apply below_alloc | apply pw_below_drewN | apply below_drew1) | exact HB.out)⟩
                            · rw [if_neg c20] at H
                              have c20b0 : ((x5_2.length : Int) == 16) = false := beq_eq_false_iff_ne.mpr c20
                              have c20b1 : ((x5_2.length : Int) != 16) = true := bne_iff_ne.mpr c20
                              by_cases c22 : x5_2.length < 8796093022208
                              · rw [if_pos c22] at H
                                have LMc22 := Aside0.mk c22
                                clear c22
                                obtain ⟨y143, hy143⟩ : ∃ y_ : List ByteArray, y_ = (x5_2 ++ [rdOf ByteArray.empty t135 x7_2]) := ⟨_, rfl⟩
                                replace H : (slabvaultref17_Parse.l0 kj10 y143 t135 (wrap64 (x7_2 + 1))) = some (r1, r2, r3) := by first | (rw [hy143]; with_reducible exact H) | (have H2_ := (Option.bind_some _ _).symm.trans H; rw [hy143]; with_reducible exact H2_) | (have H2_ := (Option.bind_some _ _).symm.trans H; with_reducible exact H2_) | with_reducible exact H | (rw [hy143]; exact H) | exact H
                                have Ny143 := Aside0.mk hy143
                                clear hy143
                                have H' := Aside0.mk H
                                clear H
                                have p140 : 0 ≤ (x7_2 : Int) := of_decide_eq_true (by first | (with_reducible assumption) | assumption)
                                have q140 : x7_2 < (t135.length : Int) := of_decide_eq_true (by first | (with_reducible assumption) | assumption)
                                obtain ⟨ad140, e140, hx140_0⟩ := Kd.at_string (Kd.R_reads' HO_6.out).2.2 x7_2 p140 q140
                                cases e140
                                replace p140 := eq_true p140
                                replace q140 := eq_true q140
                                go_wp2_with (first | ((with_reducible refine gate_callee (f := 11) rfl ?_); refine goesL_ (some 43) rfl rfl Tryd.func11 (by kernel_rfl) rfl #[.string (rdOf ByteArray.empty t135 x7_2)] rfl (by (try simp only [List.map_toArray, List.map_cons, List.map_nil]); first | done | rfl | (simp only [List.length_drop, List.length_take]; rfl)) ?_; (with_reducible refine (slabvaultref09_Name.calls kj10 (rdOf ByteArray.empty t135 x7_2) true _ A18.out).mono ?_); rintro e w' ⟨rfl, ⟨nd, rfl⟩⟩; refine ⟨_, rfl, ?_⟩; obtain ⟨Ao23, co23, eo23⟩ := Kd.R_slice HO_5.out; subst eo23; have p142 : 0 ≤ (x7_2 : Int) := of_decide_eq_true (by first | (with_reducible assumption) | assumption); have q142 : x7_2 < (t135.length : Int) := of_decide_eq_true (by first | (with_reducible assumption) | assumption); obtain ⟨ad142, e142, hx142_0⟩ := Kd.at_string (Kd.R_reads' HO_6.out).2.2 x7_2 p142 q142; obtain rfl : ad140 = ad142 := (by injection e142); replace p142 := eq_true p142; replace q142 := eq_true q142) | ((with_reducible refine gate_builtin (b := .append) (xs := #[.tmp 50, .tmp 55]) rfl ?_); at_builtin; refine Kd.R_append Kd.string (w0 := w) w.heap.size rfl (.tmp 50) (.tmp 55) 24 9 (.string ⟨#[]⟩) 16 rfl Tryd.underlying24 info9 rfl (by decide) (by omega) (.slice Ao23 x5_2.length co23) x5_2 (rdOf ByteArray.empty t135 x7_2) [.string (rdOf ByteArray.empty t135 x7_2)] (fun k_ => some k_ ≠ (.slice (some ad140) t135.length co12 : Value).ownBlock) (fun _ => False) rfl rfl ?aP (fun _ hk => hk.elim) ?aF ?aO ?aB ?aS ?aL ?_; (case aP => exact rfl); (case aB => exact (by repeat (first | (with_reducible first | exact HB.out | apply below_alloc | apply pw_below_drewN | apply below_drew1) | exact HB.out))); (case aF => exact (fun k_ hk => Kd.fresh' (Kd.R_lt (by (with_reducible repeat (first | apply Kd.R_alloc | apply Kd.R_drewN | apply Kd.R_drew)); exact HO_6.out)) k_ hk)); (case aO => exact (by (with_reducible repeat (first | apply Kd.R_alloc | apply Kd.R_drewN | apply Kd.R_drew)); exact HO_5.out)); (case aS => exact (below_size (by repeat (first | (with_reducible first | exact HB.out | apply below_alloc | apply pw_below_drewN | apply below_drew1) | exact HB.out)))); (case aL => have := LMc22.out; omega); intro v144 w24 ho hb hg hat; rw [← Ny143.out] at ho; have n0_ := Aside0.mk (Kd.R_after (ok := (fun _ => True)) (by (with_reducible repeat (first | apply Kd.R_alloc | apply Kd.R_drewN | apply Kd.R_drew)); exact Kd.R_mono HO_6.out (fun _ hk => ⟨trivial, hk⟩)) hg hat); have n1_ := Aside0.mk (hb); have n2_ := Aside0.mk (ho); clear HO_6; clear HB; clear HO_5; have HO_6 := n0_; have HB := n1_; have HO145 := n2_; clear n0_ n1_ n2_; clear ho hb hg hat))
                                go_roundg kj10
                                case measure => have := HJ2.out; have := HK2.out; have := HJ10.out; omega
                                case rel => exact ⟨(y143), (wrap64 (x7_2 + 1)), (by first | rfl | (simp; done) | (simp [*]; done)), H', ⟨by have := HJ2.out; have := HK2.out; have := HJ10.out; omega⟩, ⟨by (with_reducible repeat (first | apply Kd.R_alloc | apply Kd.R_drewN | apply Kd.R_drew)); exact HO145.out⟩, ⟨by (with_reducible repeat (first | apply Kd.R_alloc | apply Kd.R_drewN | apply Kd.R_drew)); exact Kd.R_mono HO_6.out (fun _ hk => hk.2)⟩, ⟨by repeat (first | (with_reducible first | exact HB.out | apply below_alloc | apply pw_below_drewN | apply below_drew1) | exact HB.out)⟩⟩
                              · rw [if_neg c22] at H
                                exact absurd H (by simp)
                          · replace c19 := Bool.eq_false_iff.mpr c19
                            subst c19
                            have H1 : (some (([] : List ByteArray), (x5_2.length : Int), 8)) = some (r1, r2, r3) := by rw [if_neg (show ¬ (false = true) by decide)] at H; exact H
                            clear H
                            have H := H1
                            clear H1
                            simp only [Option.some.injEq, Prod.mk.injEq] at H
                            obtain ⟨rfl, rfl, rfl⟩ := H
                            have p140 : 0 ≤ (x7_2 : Int) := of_decide_eq_true (by first | (with_reducible assumption) | assumption)
                            have q140 : x7_2 < (t135.length : Int) := of_decide_eq_true (by first | (with_reducible assumption) | assumption)
                            obtain ⟨ad140, e140, hx140_0⟩ := Kd.at_string (Kd.R_reads' HO_6.out).2.2 x7_2 p140 q140
                            cases e140
                            replace p140 := eq_true p140
                            replace q140 := eq_true q140
                            go_wp2_with (first | ((with_reducible refine gate_callee (f := 11) rfl ?_); refine goesL_ (some 43) rfl rfl Tryd.func11 (by kernel_rfl) rfl #[.string (rdOf ByteArray.empty t135 x7_2)] rfl (by (try simp only [List.map_toArray, List.map_cons, List.map_nil]); first | done | rfl | (simp only [List.length_drop, List.length_take]; rfl)) ?_; (with_reducible refine (slabvaultref09_Name.calls kj10 (rdOf ByteArray.empty t135 x7_2) false _ A18.out).mono ?_); rintro e w' ⟨rfl, ⟨nd, rfl⟩⟩; refine ⟨_, rfl, ?_⟩; obtain ⟨Ao25, co25, eo25⟩ := Kd.R_slice HO_5.out; subst eo25))
                            go_ret3
                            exact ⟨_, by first | rfl | (simp [errW_none, errW_some] <;> rfl) | (simp [*, errW_none, errW_some] <;> rfl), by first | exact Kd.R_nil _ _ _ _ _ | exact Kd.N_nil _ _ _ _ _ | exact Kd.V_nil _ _ _ _ _ | exact Kd.Q_nil _ _ _ _ _ | exact Kd.S_nil _ _ _ _ _, by repeat (first | (with_reducible first | exact HB.out | apply below_alloc | apply pw_below_drewN | apply below_drew1) | exact HB.out)⟩
                        · rw [if_neg c17] at H
                          exact absurd H (by simp)
                      · rw [if_neg c16] at H
                        exact absurd H (by simp)
              · rw [if_neg c10] at H
                have c10b0 : decide (x7_2 < (t135.length : Int)) = false := decide_eq_false c10
                clear c10
                simp only [Option.some.injEq, Prod.mk.injEq] at H
                obtain ⟨rfl, rfl, rfl⟩ := H
                obtain ⟨Ao26, co26, eo26⟩ := Kd.R_slice HO_6.out
                subst eo26
                go_wp2
                go_ret3
                exact ⟨_, by first | rfl | (simp [errW_none, errW_some] <;> rfl) | (simp [*, errW_none, errW_some] <;> rfl), by (with_reducible repeat (first | apply Kd.R_alloc | apply Kd.R_drewN | apply Kd.R_drew)); exact Kd.R_mono HO_5.out (fun _ hk => trivial), by repeat (first | (with_reducible first | exact HB.out | apply below_alloc | apply pw_below_drewN | apply below_drew1) | exact HB.out)⟩
end Go.Proofs.YtbmginkdlcpnpaaDoor.Wk
end
section
namespace Go.Proofs.YtbmginkdlcpnpaaDoor.Wk
open Go.RowKit Go.Proofs.YtbmginkdlcpnpaaDoorW.PrintWords Go.Proofs.YtbmginkdlcpnpaaDoorW.PrintLast Go.Proofs.YtbmginkdlcpnpaaDoorW.PrintMore
attribute [local go_sem] max2_int min2_int max_two min_two max_three min_three max_four min_four
set_option linter.unusedVariables false
set_option linter.unusedSimpArgs false
def slabvaultref17_Join.l0 : Nat → List ByteArray → ByteArray → Int → Option (ByteArray × Int × Int)
  | 0, _, _, _ => none
  | k + 1, x0, x5, x6 => if x6 < (x0.length : Int) then (if 0 ≤ x6 then ((slabvaultref09_Name.f k (rdOf ByteArray.empty x0 x6)).bind fun t159 => (if t159 = true then (if x5.size + 1 ≤ 9223372036854775807 then (if (x5 ++ (⟨#[47]⟩ : ByteArray)).size + (rdOf ByteArray.empty x0 x6).size ≤ 9223372036854775807 then (slabvaultref17_Join.l0 k x0 ((x5 ++ (⟨#[47]⟩ : ByteArray)) ++ (rdOf ByteArray.empty x0 x6)) (wrap64 (x6 + 1))) else (none)) else (none)) else (some ((⟨#[]⟩ : ByteArray), x6, 8)))) else (none)) else (if (x5.size : Int) > 1024 then (some ((⟨#[]⟩ : ByteArray), 0, 3)) else (if x5.toList = ([] : List UInt8) then (some ((⟨#[47]⟩ : ByteArray), 0, 0)) else (some (x5, 0, 0))))
def slabvaultref17_Join.f (k : Nat) (l0 : List ByteArray) : Option (ByteArray × Int × Int) := if (l0.length : Int) > 16 then (some ((⟨#[]⟩ : ByteArray), 0, 3)) else (slabvaultref17_Join.l0 k l0 (⟨#[]⟩ : ByteArray) 0)
set_option maxHeartbeats 8000000 in
set_option maxRecDepth 100000 in
theorem slabvaultref17_Join.calls (k : Nat) (A0 : Option Addr) (c0 : Nat) (l0 : List ByteArray) (r1 : ByteArray) (r2 : Int) (r3 : Int) (w : World) (hr0 : Kd.C Kd.string w A0 l0.length l0) (hc0 : l0.length ≤ c0) (h : slabvaultref17_Join.f k l0 = some (r1, r2, r3)) :
    Calls Tryd.prog 17 #[.slice A0 l0.length c0] w fun e w' => e = .returned (.tuple #[.string r1, .int .i64 r2, .int .i64 r3]) ∧ Drawn0 w w' := by
  have HR0 := Aside0.mk hr0
  have HC0 := Aside0.mk hc0
  clear hr0 hc0
  have H : (if (l0.length : Int) > 16 then (some ((⟨#[]⟩ : ByteArray), 0, 3)) else (slabvaultref17_Join.l0 k l0 (⟨#[]⟩ : ByteArray) 0)) = some (r1, r2, r3) := h
  clear h
  by_cases c2 : (l0.length : Int) > 16
  · rw [if_pos c2] at H
    have c2b0 : decide (16 < (l0.length : Int)) = true := decide_eq_true c2
    have c2b1 : decide (16 < l0.length) = true := decide_eq_true (by omega)
    clear c2
    simp only [Option.some.injEq, Prod.mk.injEq] at H
    obtain ⟨rfl, rfl, rfl⟩ := H
    go_enter Tryd.func17, Tryd.ntmps17
    go_wp2
    go_ret3
    exact ⟨by first | rfl | (simp; done) | (simp [*]; done), by repeat (first | exact Drawn0.refl _ | apply Drawn0.step)⟩
  · rw [if_neg c2] at H
    have c2b0 : decide (16 < (l0.length : Int)) = false := decide_eq_false c2
    have c2b1 : decide (16 < l0.length) = false := decide_eq_false (by omega)
    clear c2
    have H' := Aside0.mk H
    clear H
    go_enter Tryd.func17, Tryd.ntmps17
    go_wp2
    go_loopg [5, 6] k (fun kq v5 v6 w' => ∃ (x5_1 : ByteArray) (x6_1 : Int), v5 = .string x5_1 ∧ v6 = .int .i64 x6_1 ∧ Aside0 (slabvaultref17_Join.l0 kq l0 x5_1 x6_1 = some (r1, r2, r3)) ∧ Aside0 (kq ≤ k) ∧ Drawn0 w w')
    case atStart => exact ⟨((⟨#[]⟩ : ByteArray)), (0), (by first | rfl | (simp; done) | (simp [*]; done)), (by first | rfl | (simp; done) | (simp [*]; done)), H', ⟨Nat.le_refl _⟩, by repeat (first | exact Drawn0.refl _ | apply Drawn0.step)⟩
    case round =>
      clear H'
      try clear c1
      try clear c2
      try clear c2b0
      try clear c2b1
      try clear p2
      obtain ⟨x5_1, x6_1, rfl, rfl, HA, HK1, ⟨m1, rfl⟩⟩ := hrel
      cases gk with
      | zero => exact absurd HA.out (by simp [slabvaultref17_Join.l0])
      | succ k1 =>
        have H := HA.out
        clear HA
        simp only [slabvaultref17_Join.l0] at H
        by_cases c3 : x6_1 < (l0.length : Int)
        · rw [if_pos c3] at H
          have c3b0 : decide (x6_1 < (l0.length : Int)) = true := decide_eq_true c3
          clear c3
          by_cases c4 : 0 ≤ x6_1
          · rw [if_pos c4] at H
            have c4b0 : decide (0 ≤ x6_1) = true := decide_eq_true c4
            clear c4
            replace H := Option.bind_eq_some_iff.mp H
            obtain ⟨t159, A50, H⟩ := H
            replace H : (if t159 = true then (if x5_1.size + 1 ≤ 9223372036854775807 then (if (x5_1 ++ (⟨#[47]⟩ : ByteArray)).size + (rdOf ByteArray.empty l0 x6_1).size ≤ 9223372036854775807 then (slabvaultref17_Join.l0 k1 l0 ((x5_1 ++ (⟨#[47]⟩ : ByteArray)) ++ (rdOf ByteArray.empty l0 x6_1)) (wrap64 (x6_1 + 1))) else (none)) else (none)) else (some ((⟨#[]⟩ : ByteArray), x6_1, 8))) = some (r1, r2, r3) := H
            have A5 := Aside0.mk A50
            clear A50
            by_cases c6 : t159 = true
            · subst c6
              have H1 : (if x5_1.size + 1 ≤ 9223372036854775807 then (if (x5_1 ++ (⟨#[47]⟩ : ByteArray)).size + (rdOf ByteArray.empty l0 x6_1).size ≤ 9223372036854775807 then (slabvaultref17_Join.l0 k1 l0 ((x5_1 ++ (⟨#[47]⟩ : ByteArray)) ++ (rdOf ByteArray.empty l0 x6_1)) (wrap64 (x6_1 + 1))) else (none)) else (none)) = some (r1, r2, r3) := by rw [if_pos rfl] at H; exact H
              clear H
              have H := H1
              clear H1
              by_cases c7 : x5_1.size + 1 ≤ 9223372036854775807
              · rw [if_pos c7] at H
                have c7b0 := eq_true c7
                have c7b1 : decide (x5_1.size + 1 ≤ 9223372036854775807) = true := decide_eq_true c7
                try have c7b2 : (9223372036854775807 < x5_1.size + 1) = False := eq_false (Nat.not_lt.2 c7)
                by_cases c8 : (x5_1 ++ (⟨#[47]⟩ : ByteArray)).size + (rdOf ByteArray.empty l0 x6_1).size ≤ 9223372036854775807
                · rw [if_pos c8] at H
                  have c8b0 := eq_true c8
                  have c8b1 : decide ((x5_1 ++ (⟨#[47]⟩ : ByteArray)).size + (rdOf ByteArray.empty l0 x6_1).size ≤ 9223372036854775807) = true := decide_eq_true c8
                  try have c8b2 : (9223372036854775807 < (x5_1 ++ (⟨#[47]⟩ : ByteArray)).size + (rdOf ByteArray.empty l0 x6_1).size) = False := eq_false (Nat.not_lt.2 c8)
                  have H' := Aside0.mk H
                  clear H
                  have p158 : 0 ≤ (x6_1 : Int) := of_decide_eq_true (by first | (with_reducible assumption) | assumption)
                  have q158 : x6_1 < (l0.length : Int) := of_decide_eq_true (by first | (with_reducible assumption) | assumption)
                  obtain ⟨ad158, e158, hx158_0⟩ := Kd.at_string HR0.out x6_1 p158 q158
                  cases e158
                  replace p158 := eq_true p158
                  replace q158 := eq_true q158
                  go_wp2_with (first | ((with_reducible refine gate_callee (f := 11) rfl ?_); refine goesL_ (some 20) rfl rfl Tryd.func11 (by kernel_rfl) rfl #[.string (rdOf ByteArray.empty l0 x6_1)] rfl (by (try simp only [List.map_toArray, List.map_cons, List.map_nil]); first | done | rfl | (simp only [List.length_drop, List.length_take]; rfl)) ?_; (with_reducible refine (slabvaultref09_Name.calls k1 (rdOf ByteArray.empty l0 x6_1) true _ A5.out).mono ?_); rintro e w' ⟨rfl, ⟨nd, rfl⟩⟩; refine ⟨_, rfl, ?_⟩; have p160 : 0 ≤ (x6_1 : Int) := of_decide_eq_true (by first | (with_reducible assumption) | assumption); have q160 : x6_1 < (l0.length : Int) := of_decide_eq_true (by first | (with_reducible assumption) | assumption); obtain ⟨ad160, e160, hx160_0⟩ := Kd.at_string HR0.out x6_1 p160 q160; obtain rfl : ad158 = ad160 := (by injection e160); replace p160 := eq_true p160; replace q160 := eq_true q160))
                  go_roundg k1
                  case measure => have := HK1.out; omega
                  case rel => exact ⟨((x5_1 ++ (⟨#[47]⟩ : ByteArray)) ++ (rdOf ByteArray.empty l0 x6_1)), (wrap64 (x6_1 + 1)), (by first | rfl | (simp; done) | (simp [*]; done)), (by first | rfl | (simp; done) | (simp [*]; done)), H', ⟨by have := HK1.out; omega⟩, by repeat (first | exact Drawn0.refl _ | apply Drawn0.step)⟩
                · rw [if_neg c8] at H
                  exact absurd H (by simp)
              · rw [if_neg c7] at H
                exact absurd H (by simp)
            · replace c6 := Bool.eq_false_iff.mpr c6
              subst c6
              have H1 : (some ((⟨#[]⟩ : ByteArray), x6_1, 8)) = some (r1, r2, r3) := by rw [if_neg (show ¬ (false = true) by decide)] at H; exact H
              clear H
              have H := H1
              clear H1
              simp only [Option.some.injEq, Prod.mk.injEq] at H
              obtain ⟨rfl, rfl, rfl⟩ := H
              have p158 : 0 ≤ (x6_1 : Int) := of_decide_eq_true (by first | (with_reducible assumption) | assumption)
              have q158 : x6_1 < (l0.length : Int) := of_decide_eq_true (by first | (with_reducible assumption) | assumption)
              obtain ⟨ad158, e158, hx158_0⟩ := Kd.at_string HR0.out x6_1 p158 q158
              cases e158
              replace p158 := eq_true p158
              replace q158 := eq_true q158
              go_wp2_with (first | ((with_reducible refine gate_callee (f := 11) rfl ?_); refine goesL_ (some 20) rfl rfl Tryd.func11 (by kernel_rfl) rfl #[.string (rdOf ByteArray.empty l0 x6_1)] rfl (by (try simp only [List.map_toArray, List.map_cons, List.map_nil]); first | done | rfl | (simp only [List.length_drop, List.length_take]; rfl)) ?_; (with_reducible refine (slabvaultref09_Name.calls k1 (rdOf ByteArray.empty l0 x6_1) false _ A5.out).mono ?_); rintro e w' ⟨rfl, ⟨nd, rfl⟩⟩; refine ⟨_, rfl, ?_⟩))
              go_ret3
              exact ⟨by first | rfl | (simp; done) | (simp [*]; done), by repeat (first | exact Drawn0.refl _ | apply Drawn0.step)⟩
          · rw [if_neg c4] at H
            exact absurd H (by simp)
        · rw [if_neg c3] at H
          have c3b0 : decide (x6_1 < (l0.length : Int)) = false := decide_eq_false c3
          clear c3
          by_cases c9 : (x5_1.size : Int) > 1024
          · rw [if_pos c9] at H
            have c9b0 : decide (1024 < (x5_1.size : Int)) = true := decide_eq_true c9
            have c9b1 : decide (1024 < x5_1.size) = true := decide_eq_true (by omega)
            clear c9
            simp only [Option.some.injEq, Prod.mk.injEq] at H
            obtain ⟨rfl, rfl, rfl⟩ := H
            go_wp2
            go_ret3
            exact ⟨by first | rfl | (simp; done) | (simp [*]; done), by repeat (first | exact Drawn0.refl _ | apply Drawn0.step)⟩
          · rw [if_neg c9] at H
            have c9b0 : decide (1024 < (x5_1.size : Int)) = false := decide_eq_false c9
            have c9b1 : decide (1024 < x5_1.size) = false := decide_eq_false (by omega)
            clear c9
            by_cases c10 : x5_1.toList = ([] : List UInt8)
            · rw [if_pos c10] at H
              have c10b0 : (x5_1.toList == ([] : List UInt8)) = true := beq_iff_eq.mpr c10
              have c10b1 : (x5_1.toList != ([] : List UInt8)) = false := bne_eq_false_iff_eq.mpr c10
              clear c10
              simp only [Option.some.injEq, Prod.mk.injEq] at H
              obtain ⟨rfl, rfl, rfl⟩ := H
              go_wp2
              go_ret3
              exact ⟨by first | rfl | (simp; done) | (simp [*]; done), by repeat (first | exact Drawn0.refl _ | apply Drawn0.step)⟩
            · rw [if_neg c10] at H
              have c10b0 : (x5_1.toList == ([] : List UInt8)) = false := beq_eq_false_iff_ne.mpr c10
              have c10b1 : (x5_1.toList != ([] : List UInt8)) = true := bne_iff_ne.mpr c10
              simp only [Option.some.injEq, Prod.mk.injEq] at H
              obtain ⟨rfl, rfl, rfl⟩ := H
              go_wp2
              go_ret3
              exact ⟨by first | rfl | (simp; done) | (simp [*]; done), by repeat (first | exact Drawn0.refl _ | apply Drawn0.step)⟩
end Go.Proofs.YtbmginkdlcpnpaaDoor.Wk
end
section
namespace Go.Proofs.YtbmginkdlcpnpaaDoor.Wk
open Go.RowKit Go.Proofs.YtbmginkdlcpnpaaDoorW.PrintWords Go.Proofs.YtbmginkdlcpnpaaDoorW.PrintLast Go.Proofs.YtbmginkdlcpnpaaDoorW.PrintMore
attribute [local go_sem] max2_int min2_int max_two min_two max_three min_three max_four min_four
set_option linter.unusedVariables false
set_option linter.unusedSimpArgs false
def slabvaultref17_Split.f (k : Nat) (a0 : ByteArray) : Option (ByteArray × ByteArray × Int × Int) := (slabvaultref17_Parse.f k a0).bind fun bt230 => (if bt230.2.2 = 0 then (if (bt230.1.length : Int) = 0 then (some ((⟨#[]⟩ : ByteArray), (⟨#[]⟩ : ByteArray), 0, 11)) else (if 0 ≤ (wrap64 ((bt230.1.length : Int) - 1)) then (if (wrap64 ((bt230.1.length : Int) - 1)) ≤ (bt230.1.length : Int) then ((slabvaultref17_Join.f k (bt230.1.take ((wrap64 ((bt230.1.length : Int) - 1)) : Int).toNat)).bind fun bt239 => (if (wrap64 ((bt230.1.length : Int) - 1)) < (bt230.1.length : Int) then (some (bt239.1, rdOf ByteArray.empty bt230.1 (wrap64 ((bt230.1.length : Int) - 1)), 0, 0)) else (none))) else (none)) else (none))) else (some ((⟨#[]⟩ : ByteArray), (⟨#[]⟩ : ByteArray), bt230.2.1, bt230.2.2)))
set_option maxHeartbeats 8000000 in
set_option maxRecDepth 100000 in
theorem slabvaultref17_Split.calls (k : Nat) (a0 : ByteArray) (r1 : ByteArray) (r2 : ByteArray) (r3 : Int) (r4 : Int) (w : World) (h : slabvaultref17_Split.f k a0 = some (r1, r2, r3, r4)) :
    Calls Tryd.prog 19 #[.string a0] w fun e w' => e = .returned (.tuple #[.string r1, .string r2, .int .i64 r3, .int .i64 r4]) ∧ Below w.heap.size w w' := by
  have HB := Aside0.mk (Below.refl w.heap.size w)
  have H : ((slabvaultref17_Parse.f k a0).bind fun bt230 => (if bt230.2.2 = 0 then (if (bt230.1.length : Int) = 0 then (some ((⟨#[]⟩ : ByteArray), (⟨#[]⟩ : ByteArray), 0, 11)) else (if 0 ≤ (wrap64 ((bt230.1.length : Int) - 1)) then (if (wrap64 ((bt230.1.length : Int) - 1)) ≤ (bt230.1.length : Int) then ((slabvaultref17_Join.f k (bt230.1.take ((wrap64 ((bt230.1.length : Int) - 1)) : Int).toNat)).bind fun bt239 => (if (wrap64 ((bt230.1.length : Int) - 1)) < (bt230.1.length : Int) then (some (bt239.1, rdOf ByteArray.empty bt230.1 (wrap64 ((bt230.1.length : Int) - 1)), 0, 0)) else (none))) else (none)) else (none))) else (some ((⟨#[]⟩ : ByteArray), (⟨#[]⟩ : ByteArray), bt230.2.1, bt230.2.2)))) = some (r1, r2, r3, r4) := h
  clear h
  replace H := Option.bind_eq_some_iff.mp H
  obtain ⟨⟨t230, t231, t232⟩, A20, H⟩ := H
  replace H : (if t232 = 0 then (if (t230.length : Int) = 0 then (some ((⟨#[]⟩ : ByteArray), (⟨#[]⟩ : ByteArray), 0, 11)) else (if 0 ≤ (wrap64 ((t230.length : Int) - 1)) then (if (wrap64 ((t230.length : Int) - 1)) ≤ (t230.length : Int) then ((slabvaultref17_Join.f k (t230.take ((wrap64 ((t230.length : Int) - 1)) : Int).toNat)).bind fun bt239 => (if (wrap64 ((t230.length : Int) - 1)) < (t230.length : Int) then (some (bt239.1, rdOf ByteArray.empty t230 (wrap64 ((t230.length : Int) - 1)), 0, 0)) else (none))) else (none)) else (none))) else (some ((⟨#[]⟩ : ByteArray), (⟨#[]⟩ : ByteArray), t231, t232))) = some (r1, r2, r3, r4) := H
  have A2 := Aside0.mk A20
  clear A20
  by_cases c3 : t232 = 0
  · rw [if_pos c3] at H
    have c3b0 : (t232 == 0) = true := beq_iff_eq.mpr c3
    have c3b1 : (t232 != 0) = false := bne_eq_false_iff_eq.mpr c3
    clear c3
    by_cases c4 : (t230.length : Int) = 0
    · rw [if_pos c4] at H
      have c4b0 : ((t230.length : Int) == 0) = true := beq_iff_eq.mpr c4
      have c4b1 : ((t230.length : Int) != 0) = false := bne_eq_false_iff_eq.mpr c4
      clear c4
      simp only [Option.some.injEq, Prod.mk.injEq] at H
      obtain ⟨rfl, rfl, rfl, rfl⟩ := H
      go_enter Tryd.func19, Tryd.ntmps19
      go_wp2_with (first | (go_at_call 14; (with_reducible refine (slabvaultref17_Parse.calls k a0 t230 t231 t232 _ A2.out).mono ?_); rintro e w5 ⟨v233, rfl, ho0, hb⟩; have n0_ := Aside0.mk (Kd.R_lower ho0 (below_size (by repeat (first | (with_reducible first | exact HB.out | apply below_alloc | apply pw_below_drewN | apply below_drew1) | exact HB.out)))); have n1_ := Aside0.mk (below_step (by repeat (first | (with_reducible first | exact HB.out | apply below_alloc | apply pw_below_drewN | apply below_drew1) | exact HB.out)) hb); clear HB; have HO234 := n0_; have HB := n1_; clear n0_ n1_; (try clear hb); (try clear hb2); (try clear hk); (try clear hi); (try clear ho0); obtain ⟨Ao6, co6, eo6⟩ := Kd.R_slice HO234.out; subst eo6))
      repeat (go_quiet (first | (go_at_call 14; (with_reducible refine (slabvaultref17_Parse.calls k a0 t230 t231 t232 _ A2.out).mono ?_); rintro e w5 ⟨v233, rfl, ho0, hb⟩; have n0_ := Aside0.mk (Kd.R_lower ho0 (below_size (by repeat (first | (with_reducible first | exact HB.out | apply below_alloc | apply pw_below_drewN | apply below_drew1) | exact HB.out)))); have n1_ := Aside0.mk (below_step (by repeat (first | (with_reducible first | exact HB.out | apply below_alloc | apply pw_below_drewN | apply below_drew1) | exact HB.out)) hb); clear HB; have HO234 := n0_; have HB := n1_; clear n0_ n1_; (try clear hb); (try clear hb2); (try clear hk); (try clear hi); (try clear ho0); obtain ⟨Ao6, co6, eo6⟩ := Kd.R_slice HO234.out; subst eo6)); try go_wp2_with (first | (go_at_call 14; (with_reducible refine (slabvaultref17_Parse.calls k a0 t230 t231 t232 _ A2.out).mono ?_); rintro e w5 ⟨v233, rfl, ho0, hb⟩; have n0_ := Aside0.mk (Kd.R_lower ho0 (below_size (by repeat (first | (with_reducible first | exact HB.out | apply below_alloc | apply pw_below_drewN | apply below_drew1) | exact HB.out)))); have n1_ := Aside0.mk (below_step (by repeat (first | (with_reducible first | exact HB.out | apply below_alloc | apply pw_below_drewN | apply below_drew1) | exact HB.out)) hb); clear HB; have HO234 := n0_; have HB := n1_; clear n0_ n1_; (try clear hb); (try clear hb2); (try clear hk); (try clear hi); (try clear ho0); obtain ⟨Ao6, co6, eo6⟩ := Kd.R_slice HO234.out; subst eo6)))
      refine bodyPost_ret (results_list (rs := [.tmp 2, .tmp 3, .tmp 4, .tmp 5]) rfl (by simp) (.tmp (.tmp (.tmp (.tmp .nil))))) rfl ?_
      exact ⟨by first | rfl | (simp [errW_none, errW_some] <;> rfl) | (simp [*, errW_none, errW_some] <;> rfl), by repeat (first | (with_reducible first | exact HB.out | apply below_alloc | apply pw_below_drewN | apply below_drew1) | exact HB.out)⟩
    · rw [if_neg c4] at H
      have c4b0 : ((t230.length : Int) == 0) = false := beq_eq_false_iff_ne.mpr c4
      have c4b1 : ((t230.length : Int) != 0) = true := bne_iff_ne.mpr c4
      have c4b2 : ¬ (t230 = []) := fun h_ => c4 (by rw [h_]; rfl)
      obtain ⟨ji7, hji7⟩ : ∃ j_ : Int, (wrap64 ((t230.length : Int) - 1)) = j_ := ⟨_, rfl⟩
      replace H : (if 0 ≤ (ji7) then (if (ji7) ≤ (t230.length : Int) then ((slabvaultref17_Join.f k (t230.take ((ji7) : Int).toNat)).bind fun bt239 => (if (ji7) < (t230.length : Int) then (some (bt239.1, rdOf ByteArray.empty t230 (ji7), 0, 0)) else (none))) else (none)) else (none)) = some (r1, r2, r3, r4) := by first | (rw [hji7] at H; exact H) | (simp only [hji7] at H ⊢; exact H)
      (try rw [hji7] at A2)
      have hji7w : (IntKind.i64.wrap ((t230.length : Int) - 1)) = ji7 := (i64_w _).trans hji7
      by_cases c8 : 0 ≤ (ji7)
      · rw [if_pos c8] at H
        have c8b0 := eq_true c8
        have c8b1 : decide (0 ≤ (ji7)) = true := decide_eq_true c8
        clear c8
        by_cases c9 : (ji7) ≤ (t230.length : Int)
        · rw [if_pos c9] at H
          have c9b0 := eq_true c9
          have c9b1 : decide ((ji7) ≤ (t230.length : Int)) = true := decide_eq_true c9
          clear c9
          obtain ⟨y235, hy235⟩ : ∃ y_ : List ByteArray, y_ = (t230.take ((ji7) : Int).toNat) := ⟨_, rfl⟩
          replace H : ((slabvaultref17_Join.f k y235).bind fun bt239 => (if (ji7) < (t230.length : Int) then (some (bt239.1, rdOf ByteArray.empty t230 (ji7), 0, 0)) else (none))) = some (r1, r2, r3, r4) := by first | (rw [hy235]; with_reducible exact H) | (have H2_ := (Option.bind_some _ _).symm.trans H; rw [hy235]; with_reducible exact H2_) | (have H2_ := (Option.bind_some _ _).symm.trans H; with_reducible exact H2_) | with_reducible exact H | (rw [hy235]; exact H) | exact H
          have Ny235 := Aside0.mk hy235
          clear hy235
          replace H := Option.bind_eq_some_iff.mp H
          obtain ⟨⟨t239, t240, t241⟩, A100, H⟩ := H
          replace H : (if (ji7) < (t230.length : Int) then (some (t239, rdOf ByteArray.empty t230 (ji7), 0, 0)) else (none)) = some (r1, r2, r3, r4) := H
          have A10 := Aside0.mk A100
          clear A100
          by_cases c11 : (ji7) < (t230.length : Int)
          · rw [if_pos c11] at H
            have c11b0 : decide ((ji7) < (t230.length : Int)) = true := decide_eq_true c11
            clear c11
            simp only [Option.some.injEq, Prod.mk.injEq] at H
            obtain ⟨rfl, rfl, rfl, rfl⟩ := H
            go_enter Tryd.func19, Tryd.ntmps19
            go_wp2_with (first | (go_at_call 14; (with_reducible refine (slabvaultref17_Parse.calls k a0 t230 t231 t232 _ A2.out).mono ?_); rintro e w12 ⟨v233, rfl, ho0, hb⟩; have n0_ := Aside0.mk (Kd.R_lower ho0 (below_size (by repeat (first | (with_reducible first | exact HB.out | apply below_alloc | apply pw_below_drewN | apply below_drew1) | exact HB.out)))); have n1_ := Aside0.mk (below_step (by repeat (first | (with_reducible first | exact HB.out | apply below_alloc | apply pw_below_drewN | apply below_drew1) | exact HB.out)) hb); clear HB; have HO234 := n0_; have HB := n1_; clear n0_ n1_; (try clear hb); (try clear hb2); (try clear hk); (try clear hi); (try clear ho0); obtain ⟨Ao13, co13, eo13⟩ := Kd.R_slice HO234.out; subst eo13; have q14 : ((ji7) : Int) ≤ ((t230.length : Int) : Int) := of_decide_eq_true (by first | (with_reducible assumption) | assumption); obtain ⟨i014, hi014, _, hsz14, _⟩ := info_parts info9; have hroom14 : t230.length ≤ co13 := (Kd.R_reads' HO234.out).2.1; have hC14 : Kd.C Kd.string _ Ao13 t230.length t230 := (Kd.R_reads' HO234.out).2.2; have hcut14 := cut_to (P := Tryd.prog) 24 9 .i64 Tryd.underlying24 hi014 Ao13 t230.length co13 (ji7) (of_decide_eq_true (by first | (with_reducible assumption) | assumption)) q14 hroom14; have hr14 := Kd.C_take (m := ((ji7) : Int).toNat) hC14 (by omega); have hy14 : y235.length = ((ji7) : Int).toNat := (by rw [Ny235.out, List.length_take]; omega); rw [← Ny235.out] at hr14; rw [← hy14] at hcut14; have HR238 := Aside0.mk hr14; have HC238 := Aside0.mk (show y235.length ≤ co13 from by omega); clear hr14 hC14 hroom14 hi014 hsz14; have KY14 := Aside0.mk hy14; clear hy14; have KL14 := Aside0.mk (show ((ji7) : Int).toNat ≤ t230.length from by omega); replace q14 := eq_true q14) | (go_at_call 17; (with_reducible refine (slabvaultref17_Join.calls k _ _ y235 t239 t240 t241 _ ?side1 ?side2 A10.out).mono ?_); (case side1 => repeat (first | exact (by repeat (first | (with_reducible exact HR238.out) | (with_reducible refine Kd.C_alloc ?_ _) | (with_reducible refine Kd.C_drewN ?_ _) | (with_reducible refine Kd.C_drew ?_) | exact HR238.out)) | (with_reducible refine Kd.C_alloc ?_ _) | (with_reducible refine Kd.C_drewN ?_ _) | (with_reducible refine Kd.C_drew ?_))); (case side2 => exact HC238.out); rintro e w' ⟨rfl, ⟨nd, rfl⟩⟩; (try first | exact ⟨rfl, _, World.drewN_drewN _ _ _⟩ | exact ⟨rfl, _, Eq.trans (World.drewN_drewN _ _ _) (congrArg (World.drewN _) (Nat.add_assoc _ _ _))⟩); have p242 : 0 ≤ ((ji7) : Int) := of_decide_eq_true (by first | (with_reducible assumption) | assumption); have q242 : (ji7) < (t230.length : Int) := of_decide_eq_true (by first | (with_reducible assumption) | assumption); obtain ⟨ad242, e242, hx242_0⟩ := Kd.at_string (Kd.R_reads' HO234.out).2.2 (ji7) p242 q242; cases e242; replace p242 := eq_true p242; replace q242 := eq_true q242))
            repeat (go_quiet (first | (go_at_call 14; (with_reducible refine (slabvaultref17_Parse.calls k a0 t230 t231 t232 _ A2.out).mono ?_); rintro e w12 ⟨v233, rfl, ho0, hb⟩; have n0_ := Aside0.mk (Kd.R_lower ho0 (below_size (by repeat (first | (with_reducible first | exact HB.out | apply below_alloc | apply pw_below_drewN | apply below_drew1) | exact HB.out)))); have n1_ := Aside0.mk (below_step (by repeat (first | (with_reducible first | exact HB.out | apply below_alloc | apply pw_below_drewN | apply below_drew1) | exact HB.out)) hb); clear HB; have HO234 := n0_; have HB := n1_; clear n0_ n1_; (try clear hb); (try clear hb2); (try clear hk); (try clear hi); (try clear ho0); obtain ⟨Ao13, co13, eo13⟩ := Kd.R_slice HO234.out; subst eo13; have q14 : ((ji7) : Int) ≤ ((t230.length : Int) : Int) := of_decide_eq_true (by first | (with_reducible assumption) | assumption); obtain ⟨i014, hi014, _, hsz14, _⟩ := info_parts info9; have hroom14 : t230.length ≤ co13 := (Kd.R_reads' HO234.out).2.1; have hC14 : Kd.C Kd.string _ Ao13 t230.length t230 := (Kd.R_reads' HO234.out).2.2; have hcut14 := cut_to (P := Tryd.prog) 24 9 .i64 Tryd.underlying24 hi014 Ao13 t230.length co13 (ji7) (of_decide_eq_true (by first | (with_reducible assumption) | assumption)) q14 hroom14; have hr14 := Kd.C_take (m := ((ji7) : Int).toNat) hC14 (by omega); have hy14 : y235.length = ((ji7) : Int).toNat := (by rw [Ny235.out, List.length_take]; omega); rw [← Ny235.out] at hr14; rw [← hy14] at hcut14; have HR238 := Aside0.mk hr14; have HC238 := Aside0.mk (show y235.length ≤ co13 from by omega); clear hr14 hC14 hroom14 hi014 hsz14; have KY14 := Aside0.mk hy14; clear hy14; have KL14 := Aside0.mk (show ((ji7) : Int).toNat ≤ t230.length from by omega); replace q14 := eq_true q14) | (go_at_call 17; (with_reducible refine (slabvaultref17_Join.calls k _ _ y235 t239 t240 t241 _ ?side1 ?side2 A10.out).mono ?_); (case side1 => repeat (first | exact (by repeat (first | (with_reducible exact HR238.out) | (with_reducible refine Kd.C_alloc ?_ _) | (with_reducible refine Kd.C_drewN ?_ _) | (with_reducible refine Kd.C_drew ?_) | exact HR238.out)) | (with_reducible refine Kd.C_alloc ?_ _) | (with_reducible refine Kd.C_drewN ?_ _) | (with_reducible refine Kd.C_drew ?_))); (case side2 => exact HC238.out); rintro e w' ⟨rfl, ⟨nd, rfl⟩⟩; (try first | exact ⟨rfl, _, World.drewN_drewN _ _ _⟩ | exact ⟨rfl, _, Eq.trans (World.drewN_drewN _ _ _) (congrArg (World.drewN _) (Nat.add_assoc _ _ _))⟩); have p242 : 0 ≤ ((ji7) : Int) := of_decide_eq_true (by first | (with_reducible assumption) | assumption); have q242 : (ji7) < (t230.length : Int) := of_decide_eq_true (by first | (with_reducible assumption) | assumption); obtain ⟨ad242, e242, hx242_0⟩ := Kd.at_string (Kd.R_reads' HO234.out).2.2 (ji7) p242 q242; cases e242; replace p242 := eq_true p242; replace q242 := eq_true q242)); try go_wp2_with (first | (go_at_call 14; (with_reducible refine (slabvaultref17_Parse.calls k a0 t230 t231 t232 _ A2.out).mono ?_); rintro e w12 ⟨v233, rfl, ho0, hb⟩; have n0_ := Aside0.mk (Kd.R_lower ho0 (below_size (by repeat (first | (with_reducible first | exact HB.out | apply below_alloc | apply pw_below_drewN | apply below_drew1) | exact HB.out)))); have n1_ := Aside0.mk (below_step (by repeat (first | (with_reducible first | exact HB.out | apply below_alloc | apply pw_below_drewN | apply below_drew1) | exact HB.out)) hb); clear HB; have HO234 := n0_; have HB := n1_; clear n0_ n1_; (try clear hb); (try clear hb2); (try clear hk); (try clear hi); (try clear ho0); obtain ⟨Ao13, co13, eo13⟩ := Kd.R_slice HO234.out; subst eo13; have q14 : ((ji7) : Int) ≤ ((t230.length : Int) : Int) := of_decide_eq_true (by first | (with_reducible assumption) | assumption); obtain ⟨i014, hi014, _, hsz14, _⟩ := info_parts info9; have hroom14 : t230.length ≤ co13 := (Kd.R_reads' HO234.out).2.1; have hC14 : Kd.C Kd.string _ Ao13 t230.length t230 := (Kd.R_reads' HO234.out).2.2; have hcut14 := cut_to (P := Tryd.prog) 24 9 .i64 Tryd.underlying24 hi014 Ao13 t230.length co13 (ji7) (of_decide_eq_true (by first | (with_reducible assumption) | assumption)) q14 hroom14; have hr14 := Kd.C_take (m := ((ji7) : Int).toNat) hC14 (by omega); have hy14 : y235.length = ((ji7) : Int).toNat := (by rw [Ny235.out, List.length_take]; omega); rw [← Ny235.out] at hr14; rw [← hy14] at hcut14; have HR238 := Aside0.mk hr14; have HC238 := Aside0.mk (show y235.length ≤ co13 from by omega); clear hr14 hC14 hroom14 hi014 hsz14; have KY14 := Aside0.mk hy14; clear hy14; have KL14 := Aside0.mk (show ((ji7) : Int).toNat ≤ t230.length from by omega); replace q14 := eq_true q14) | (go_at_call 17; (with_reducible refine (slabvaultref17_Join.calls k _ _ y235 t239 t240 t241 _ ?side1 ?side2 A10.out).mono ?_); (case side1 => repeat (first | exact (by repeat (first | (with_reducible exact HR238.out) | (with_reducible refine Kd.C_alloc ?_ _) | (with_reducible refine Kd.C_drewN ?_ _) | (with_reducible refine Kd.C_drew ?_) | exact HR238.out)) | (with_reducible refine Kd.C_alloc ?_ _) | (with_reducible refine Kd.C_drewN ?_ _) | (with_reducible refine Kd.C_drew ?_))); (case side2 => exact HC238.out); rintro e w' ⟨rfl, ⟨nd, rfl⟩⟩; (try first | exact ⟨rfl, _, World.drewN_drewN _ _ _⟩ | exact ⟨rfl, _, Eq.trans (World.drewN_drewN _ _ _) (congrArg (World.drewN _) (Nat.add_assoc _ _ _))⟩); have p242 : 0 ≤ ((ji7) : Int) := of_decide_eq_true (by first | (with_reducible assumption) | assumption); have q242 : (ji7) < (t230.length : Int) := of_decide_eq_true (by first | (with_reducible assumption) | assumption); obtain ⟨ad242, e242, hx242_0⟩ := Kd.at_string (Kd.R_reads' HO234.out).2.2 (ji7) p242 q242; cases e242; replace p242 := eq_true p242; replace q242 := eq_true q242)))
            refine bodyPost_ret (results_list (rs := [.tmp 2, .tmp 3, .tmp 4, .tmp 5]) rfl (by simp) (.tmp (.tmp (.tmp (.tmp .nil))))) rfl ?_
            exact ⟨by first | rfl | (simp [errW_none, errW_some] <;> rfl) | (simp only [← hji7]; first | rfl | (simp [errW_none, errW_some] <;> rfl)) | (simp [*, errW_none, errW_some] <;> rfl), by repeat (first | (with_reducible first | exact HB.out | apply below_alloc | apply pw_below_drewN | apply below_drew1) | exact HB.out)⟩
          · rw [if_neg c11] at H
            exact absurd H (by simp)
        · rw [if_neg c9] at H
          exact absurd H (by simp)
      · rw [if_neg c8] at H
        exact absurd H (by simp)
  · rw [if_neg c3] at H
    have c3b0 : (t232 == 0) = false := beq_eq_false_iff_ne.mpr c3
    have c3b1 : (t232 != 0) = true := bne_iff_ne.mpr c3
    simp only [Option.some.injEq, Prod.mk.injEq] at H
    obtain ⟨rfl, rfl, rfl, rfl⟩ := H
    go_enter Tryd.func19, Tryd.ntmps19
    go_wp2_with (first | (go_at_call 14; (with_reducible refine (slabvaultref17_Parse.calls k a0 t230 t231 t232 _ A2.out).mono ?_); rintro e w15 ⟨v233, rfl, ho0, hb⟩; have n0_ := Aside0.mk (Kd.R_lower ho0 (below_size (by repeat (first | (with_reducible first | exact HB.out | apply below_alloc | apply pw_below_drewN | apply below_drew1) | exact HB.out)))); have n1_ := Aside0.mk (below_step (by repeat (first | (with_reducible first | exact HB.out | apply below_alloc | apply pw_below_drewN | apply below_drew1) | exact HB.out)) hb); clear HB; have HO234 := n0_; have HB := n1_; clear n0_ n1_; (try clear hb); (try clear hb2); (try clear hk); (try clear hi); (try clear ho0)))
    repeat (go_quiet (first | (go_at_call 14; (with_reducible refine (slabvaultref17_Parse.calls k a0 t230 t231 t232 _ A2.out).mono ?_); rintro e w15 ⟨v233, rfl, ho0, hb⟩; have n0_ := Aside0.mk (Kd.R_lower ho0 (below_size (by repeat (first | (with_reducible first | exact HB.out | apply below_alloc | apply pw_below_drewN | apply below_drew1) | exact HB.out)))); have n1_ := Aside0.mk (below_step (by repeat (first | (with_reducible first | exact HB.out | apply below_alloc | apply pw_below_drewN | apply below_drew1) | exact HB.out)) hb); clear HB; have HO234 := n0_; have HB := n1_; clear n0_ n1_; (try clear hb); (try clear hb2); (try clear hk); (try clear hi); (try clear ho0))); try go_wp2_with (first | (go_at_call 14; (with_reducible refine (slabvaultref17_Parse.calls k a0 t230 t231 t232 _ A2.out).mono ?_); rintro e w15 ⟨v233, rfl, ho0, hb⟩; have n0_ := Aside0.mk (Kd.R_lower ho0 (below_size (by repeat (first | (with_reducible first | exact HB.out | apply below_alloc | apply pw_below_drewN | apply below_drew1) | exact HB.out)))); have n1_ := Aside0.mk (below_step (by repeat (first | (with_reducible first | exact HB.out | apply below_alloc | apply pw_below_drewN | apply below_drew1) | exact HB.out)) hb); clear HB; have HO234 := n0_; have HB := n1_; clear n0_ n1_; (try clear hb); (try clear hb2); (try clear hk); (try clear hi); (try clear ho0))))
    refine bodyPost_ret (results_list (rs := [.tmp 2, .tmp 3, .tmp 4, .tmp 5]) rfl (by simp) (.tmp (.tmp (.tmp (.tmp .nil))))) rfl ?_
    exact ⟨by first | rfl | (simp [errW_none, errW_some] <;> rfl) | (simp [*, errW_none, errW_some] <;> rfl), by repeat (first | (with_reducible first | exact HB.out | apply below_alloc | apply pw_below_drewN | apply below_drew1) | exact HB.out)⟩
end Go.Proofs.YtbmginkdlcpnpaaDoor.Wk
end
section
namespace Go.Proofs.YtbmginkdlcpnpaaDoor.Wk
open Go.RowKit Go.Lib Go.Proofs.YtbmginkdlcpnpaaDoorW.PrintWords Go.Proofs.YtbmginkdlcpnpaaDoorW.PrintLast Go.Proofs.YtbmginkdlcpnpaaDoorW.PrintMore
set_option linter.unusedVariables false
theorem wrap_nat (i : Nat) (h : i < 9223372036854775806) : wrap64 ((i : Int) + 1) = ((i + 1 : Nat) : Int) := by
  unfold wrap64
  omega
theorem bt_nat (s : ByteArray) (i : Nat) (b : UInt8) (h : s.data.toList[i]? = some b) : bt s (i : Int) = (b.toNat : Int) := by
  have hi : i < s.size := by rw [Lib.size_eq]; exact (List.getElem?_eq_some_iff.1 h).1
  unfold bt
  rw [show ((i : Int)).toNat = i from rfl, dif_pos hi]
  have := Lib.data_getElem? s i hi
  rw [h] at this
  cases this
  rfl
theorem byte_eq (b c : UInt8) : ((b.toNat : Int) = (c.toNat : Int)) ↔ b = c := by
  constructor
  · intro h
    exact UInt8.toNat_inj.1 (by omega)
  · rintro rfl; rfl
theorem byte_zero (b : UInt8) : ((b.toNat : Int) = 0) ↔ b = 0 := byte_eq b 0
theorem byte_slash (b : UInt8) : ((b.toNat : Int) = 47) ↔ b = 47 := byte_eq b 47
theorem any_cons (b : UInt8) (l : List UInt8) : Lib.containsAny (b :: l) [47, 0] = (decide (b = 47 ∨ b = 0) || Lib.containsAny l [47, 0]) := by
  have hg := Lib.indexAny_ge [47, 0] l
  by_cases h : b = 47 ∨ b = 0
  · have hc : ([47, 0] : List UInt8).contains b = true := by rcases h with rfl | rfl <;> rfl
    simp [Lib.containsAny, Lib.indexAny, h]
  · have hc : ([47, 0] : List UInt8).contains b = false := by
      simp only [List.contains_cons, List.contains_nil, Bool.or_false, Bool.or_eq_false_iff, beq_eq_false_iff_ne]
      exact ⟨fun e => h (.inl e), fun e => h (.inr e)⟩
    have hd : decide (b = 47 ∨ b = 0) = false := decide_eq_false h
    rw [hd, Bool.false_or]
    unfold Lib.containsAny
    congr 1
    rw [Lib.indexAny, if_neg (by rw [hc]; simp)]
    split
    · rename_i h1
      have : Lib.indexAny l [47, 0] = -1 := by simpa using h1
      rw [this]
    · rename_i h1
      have : Lib.indexAny l [47, 0] ≠ -1 := by simpa using h1
      apply propext
      omega
theorem any_nil : Lib.containsAny [] [47, 0] = false := rfl
theorem nameLoop (s : ByteArray) (hs : s.size < 1000000) : ∀ (d i k : Nat), s.size - i = d → i ≤ s.size → d < k →
    slabvaultref09_Name.l0 k s (i : Int) = some (!(Lib.containsAny (s.data.toList.drop i) [47, 0])) := by
  have hz := Lib.size_eq s
  intro d
  induction d with
  | zero =>
    intro i k hd hi hk
    obtain ⟨k, rfl⟩ : ∃ m, k = m + 1 := ⟨k - 1, by omega⟩
    have : i = s.size := by omega
    subst this
    simp only [slabvaultref09_Name.l0]
    rw [if_neg (by omega), hz, List.drop_of_length_le (Nat.le_refl _), any_nil]
    rfl
  | succ d ih =>
    intro i k hd hi hk
    obtain ⟨k, rfl⟩ : ∃ m, k = m + 1 := ⟨k - 1, by omega⟩
    have hlt : i < s.data.toList.length := by omega
    have hb := bt_nat s i (s.data.toList[i]) (List.getElem?_eq_getElem hlt)
    rw [List.drop_eq_getElem_cons hlt, any_cons]
    generalize s.data.toList[i] = b at hb
    simp only [slabvaultref09_Name.l0]
    rw [if_pos (by omega), if_pos (by omega), hb]
    by_cases h0 : b = 0
    · rw [if_pos ((byte_zero b).2 h0)]
      simp [h0]
    · rw [if_neg (fun e => h0 ((byte_zero b).1 e))]
      by_cases h47 : b = 47
      · rw [if_pos ((byte_slash b).2 h47)]
        simp [h47]
      · rw [if_neg (fun e => h47 ((byte_slash b).1 e)), wrap_nat i (by omega), ih (i + 1) k (by omega) (by omega) (by omega)]
        simp [h0, h47]
theorem ref_name (s : ByteArray) (k : Nat) (hk : 100 ≤ k) : slabvaultref09_Name.f k s = some (goodName s) := by
  have hz := Lib.size_eq s
  have hl := ByteArray.toList_eq s
  obtain ⟨k, rfl⟩ : ∃ m, k = m + 1 := ⟨k - 1, by omega⟩
  unfold slabvaultref09_Name.f goodName
  by_cases h1 : (s.size : Int) < 1
  · have h00 : s.data.toList.length = 0 := by omega
    have h0 : s.toList = [] := by rw [hl]; exact List.length_eq_zero_iff.1 h00
    rw [if_pos h1, h0]
    simp [slabvaultref09_Name.j0]
  · have he : s.toList.isEmpty = false := by
      rw [hl]
      cases h : s.data.toList with
      | nil => rw [h] at hz; have h00 : s.size = 0 := hz; omega
      | cons a t => rfl
    rw [if_neg h1, he]
    by_cases h2 : (s.size : Int) > 64
    · rw [if_pos h2]
      have : ¬ s.size ≤ 64 := by omega
      simp [slabvaultref09_Name.j0, this]
    · have h64 : s.size ≤ 64 := by omega
      rw [if_neg h2]
      by_cases h3 : s.toList = [46]
      · rw [if_pos h3, h3]
        simp [slabvaultref09_Name.j0]
      · have h3b : (s.toList == [46]) = false := by simpa using h3
        rw [if_neg h3, h3b]
        simp only [slabvaultref09_Name.j0]
        by_cases h4 : s.toList = [46, 46]
        · rw [h4]; simp
        · have h4b : (s.toList == [46, 46]) = false := by simpa using h4
          rw [h4b, if_neg (by simp)]
          have := nameLoop s (by omega) s.size 0 k (by omega) (by omega) (by omega)
          rw [show ((0 : Nat) : Int) = 0 from rfl] at this
          rw [this]
          simp [h64]
theorem cutL_cons_slash (l : List UInt8) : cutL (47 :: l) = [] :: cutL l := by simp [cutL]
theorem cutL_cons (b : UInt8) (l : List UInt8) (h : b ≠ 47) (p : List UInt8) (ps : List (List UInt8)) (hp : cutL l = p :: ps) : cutL (b :: l) = (b :: p) :: ps := by
  rw [show cutL (b :: l) = (if b = 47 then [] :: cutL l else match cutL l with | [] => [[b]] | p :: ps => (b :: p) :: ps) from rfl, if_neg h, hp]
theorem slice_mkB (s : ByteArray) (a b : Nat) : s.extract a b = mkB ((s.data.toList.drop a).take (b - a)) := by
  apply mkB_eq
  rw [data_mkB, Lib.extract_data]
theorem partsLoop (s : ByteArray) (hs : s.size < 1000000) : ∀ (d i k a : Nat) (acc : List ByteArray) (p : List UInt8) (ps : List (List UInt8)), s.size - i = d → i ≤ s.size → a ≤ i → d + 1 < k → acc.length ≤ i →
    cutL (s.data.toList.drop i) = p :: ps →
    slabvaultref17_parts.l0 k s acc (a : Int) (i : Int) = some (acc ++ mkB ((s.data.toList.drop a).take (i - a) ++ p) :: ps.map mkB) := by
  have hz := Lib.size_eq s
  intro d
  induction d with
  | zero =>
    intro i k a acc p ps hd hi ha hk hacc hc
    obtain ⟨k, rfl⟩ : ∃ m, k = m + 2 := ⟨k - 2, by omega⟩
    have : i = s.size := by omega
    subst this
    rw [List.drop_of_length_le (by omega)] at hc
    obtain ⟨rfl, rfl⟩ : [] = p ∧ [] = ps := by simpa [cutL] using hc
    simp only [slabvaultref17_parts.l0]
    rw [if_pos (by omega), if_true, if_pos (by omega), if_pos (by omega), if_pos (by omega), wrap_nat s.size (by omega), if_neg (by omega)]
    rw [show ((a : Int)).toNat = a from rfl, show ((s.size : Int)).toNat = s.size from rfl, slice_mkB]
    simp
  | succ d ih =>
    intro i k a acc p ps hd hi ha hk hacc hc
    obtain ⟨k, rfl⟩ : ∃ m, k = m + 1 := ⟨k - 1, by omega⟩
    have hlt : i < s.data.toList.length := by omega
    have hb := bt_nat s i (s.data.toList[i]) (List.getElem?_eq_getElem hlt)
    rw [List.drop_eq_getElem_cons hlt] at hc
    have htk : (s.data.toList.drop a).take (i + 1 - a) = (s.data.toList.drop a).take (i - a) ++ [s.data.toList[i]] := by
      have h1 : i + 1 - a = (i - a) + 1 := by omega
      have h2 : i - a < (s.data.toList.drop a).length := by rw [List.length_drop]; omega
      rw [h1, List.take_succ_eq_append_getElem h2]
      congr 2
      rw [List.getElem_drop]
      congr 1
      omega
    generalize s.data.toList[i] = b at hb hc htk
    obtain ⟨q, qs, hq⟩ : ∃ q qs, cutL (s.data.toList.drop (i + 1)) = q :: qs := by
      cases h : cutL (s.data.toList.drop (i + 1)) with
      | nil => exact absurd h (cutL_ne _)
      | cons q qs => exact ⟨q, qs, rfl⟩
    simp only [slabvaultref17_parts.l0]
    rw [if_pos (by omega), if_neg (by omega), if_pos (by omega), if_pos (by omega), hb]
    by_cases h47 : b = 47
    · subst h47
      rw [cutL_cons_slash, hq] at hc
      obtain ⟨rfl, rfl⟩ : [] = p ∧ q :: qs = ps := by simpa using hc
      rw [if_pos ((byte_slash 47).2 rfl), if_pos (by omega), if_pos (by omega), if_pos (by omega), wrap_nat i (by omega)]
      have := ih (i + 1) k (i + 1) (acc ++ [s.extract ((a : Int)).toNat ((i : Int)).toNat]) q qs (by omega) (by omega) (Nat.le_refl _) (by omega) (by simp; omega) hq
      rw [this, show ((a : Int)).toNat = a from rfl, show ((i : Int)).toNat = i from rfl, slice_mkB]
      simp
    · rw [cutL_cons b _ h47 q qs hq] at hc
      obtain ⟨rfl, rfl⟩ : b :: q = p ∧ qs = ps := by simpa using hc
      rw [if_neg (fun e => h47 ((byte_slash b).1 e)), wrap_nat i (by omega)]
      have := ih (i + 1) k a acc q qs (by omega) (by omega) (by omega) (by omega) (by omega) hq
      rw [this, htk]
      simp
theorem ref_parts (s : ByteArray) (h1 : 1 ≤ s.size) (hs : s.size < 1000000) (k : Nat) (hk : s.size < k) : slabvaultref17_parts.f k s = some (partsB (s.extract 1 s.size)) := by
  have hz := Lib.size_eq s
  obtain ⟨q, qs, hq⟩ : ∃ q qs, cutL (s.data.toList.drop 1) = q :: qs := by
    cases h : cutL (s.data.toList.drop 1) with
    | nil => exact absurd h (cutL_ne _)
    | cons q qs => exact ⟨q, qs, rfl⟩
  unfold slabvaultref17_parts.f
  have := partsLoop s hs (s.size - 1) 1 k 1 [] q qs rfl h1 (Nat.le_refl _) (by omega) (by simp) hq
  rw [show ((1 : Nat) : Int) = 1 from rfl] at this
  rw [this]
  unfold partsB
  rw [Lib.extract_data, show (s.data.toList.drop 1).take (s.size - 1) = s.data.toList.drop 1 from List.take_of_length_le (by rw [List.length_drop]; omega), hq]
  simp
def three : Except (Nat × Int) (List ByteArray) → List ByteArray × Int × Int
  | .ok l => (l, 0, 0)
  | .error (a, y) => ([], a, y)
theorem parseP_three (s : ByteArray) : parseP s = three (parseF s) := by
  unfold parseP three
  cases parseF s with
  | ok l => rfl
  | error p => rfl
theorem rdOf_nat (l : List ByteArray) (i : Nat) (h : i < l.length) : rdOf ByteArray.empty l (i : Int) = l[i] := by
  simp [rdOf, List.getD_eq_getElem?_getD, List.getElem?_eq_getElem h]
theorem parseLoop (x6 : List ByteArray) (hx : x6.length < 1000000) : ∀ (d i k : Nat) (acc : List ByteArray), x6.length - i = d → i ≤ x6.length → 2 * d + 110 < k → acc.length ≤ 16 →
    slabvaultref17_Parse.l0 k acc x6 (i : Int) = some (three (parseL acc (x6.drop i))) := by
  intro d
  induction d with
  | zero =>
    intro i k acc hd hi hk hacc
    obtain ⟨k, rfl⟩ : ∃ m, k = m + 1 := ⟨k - 1, by omega⟩
    simp only [slabvaultref17_Parse.l0]
    rw [if_neg (by omega), List.drop_of_length_le (by omega)]
    rfl
  | succ d ih =>
    intro i k acc hd hi hk hacc
    obtain ⟨k, rfl⟩ : ∃ m, k = m + 2 := ⟨k - 2, by omega⟩
    have hlt : i < x6.length := by omega
    have hrd := rdOf_nat x6 i hlt
    rw [List.drop_eq_getElem_cons hlt]
    generalize x6[i] = p at hrd
    have hpl : parseL acc (p :: x6.drop (i + 1)) = match parseStep acc p with | .ok a => parseL a (x6.drop (i + 1)) | .error e => .error e := rfl
    rw [hpl]
    have ih2 := fun acc' h' => ih (i + 1) k acc' (by omega) (by omega) (by omega) h'
    simp only [slabvaultref17_Parse.l0, slabvaultref17_Parse.j2]
    rw [if_pos (by omega), if_pos (by omega), hrd]
    unfold parseStep
    by_cases k1 : p.toList = []
    · rw [if_pos k1, k1]
      simp only [List.isEmpty_nil, if_true]
      rw [wrap_nat i (by omega)]
      exact ih2 acc hacc
    · have k1b : p.toList.isEmpty = false := by simpa using k1
      rw [if_neg k1, k1b]
      cases k2 : (p.toList == [46])
      · simp only [if_false, Bool.false_eq_true]
        rw [if_pos (by omega), if_pos (by omega), ref_name p k (by omega)]
        simp only [Option.bind_some]
        cases k3 : goodName p
        · simp [three]
        · simp only [if_true, if_false, Bool.true_eq_false]
          by_cases k4 : acc.length = 16
          · rw [if_pos (by omega), if_pos k4, k4]
            rfl
          · rw [if_neg (by omega), if_neg k4, if_pos (by omega), wrap_nat i (by omega)]
            exact ih2 (acc ++ [p]) (by simp; omega)
      · simp only [if_true, if_false, Bool.false_eq_true]
        rw [wrap_nat i (by omega)]
        exact ih2 acc hacc
theorem cutL_length : ∀ l : List UInt8, (cutL l).length ≤ l.length + 1
  | [] => by simp [cutL]
  | b :: l => by
    have ih := cutL_length l
    unfold cutL
    split
    · simp; omega
    · split
      · simp
      · rename_i h
        rw [h] at ih
        simp at ih ⊢
        omega
theorem ref_parse (s : ByteArray) (k : Nat) (hk : 5000 ≤ k) : slabvaultref17_Parse.f k s = some (parseP s) := by
  have hz := Lib.size_eq s
  obtain ⟨k, rfl⟩ : ∃ m, k = m + 1 := ⟨k - 1, by omega⟩
  rw [parseP_three]
  unfold slabvaultref17_Parse.f parseF
  by_cases h1 : 1024 < s.size
  · rw [if_pos (by omega), if_pos h1]
    rfl
  · rw [if_neg (by omega), if_neg h1]
    cases hd : s.data.toList with
    | nil =>
      rw [hd] at hz
      have h0 : s.size = 0 := hz
      rw [if_pos (by omega)]
      simp [slabvaultref17_Parse.j0, three, Lib.hasPrefix]
    | cons b t =>
      rw [hd] at hz
      have h0 : s.size = t.length + 1 := hz
      have hb : bt s 0 = (b.toNat : Int) := bt_nat s 0 b (by rw [hd]; rfl)
      rw [if_neg (by omega), if_pos (by omega), hb]
      by_cases h47 : b = 47
      · subst h47
        have hp : Lib.hasPrefix (47 :: t) [47] = true := by simp [Lib.hasPrefix]
        rw [hp, if_neg (by simp)]
        have hne : (((47 : UInt8).toNat : Int) != 47) = false := rfl
        rw [hne]
        simp only [slabvaultref17_Parse.j0]
        rw [if_neg (by simp), ref_parts s (by omega) (by omega) k (by omega)]
        simp only [Option.bind_some]
        have hle : (partsB (s.extract 1 s.size)).length ≤ 1026 := by
          unfold partsB
          rw [List.length_map]
          have := cutL_length (s.extract 1 s.size).data.toList
          rw [Lib.extract_data] at this
          rw [Lib.extract_data]
          simp only [List.length_take, List.length_drop, hd, List.length_cons] at this
          rw [hd]
          omega
        have := parseLoop (partsB (s.extract 1 s.size)) (by omega) _ 0 k [] rfl (by omega) (by omega) (by simp)
        rw [show ((0 : Nat) : Int) = 0 from rfl] at this
        rw [this, List.drop_zero]
      · have hp : Lib.hasPrefix (b :: t) [47] = false := by
          simp only [Lib.hasPrefix, List.isPrefixOf, Bool.and_true, beq_eq_false_iff_ne, ne_eq]
          rintro rfl
          exact h47 rfl
        rw [hp, if_pos rfl]
        have hne : ((b.toNat : Int) != 47) = true := by
          rw [bne_iff_ne]
          exact fun e => h47 ((byte_slash b).1 e)
        rw [hne]
        simp [slabvaultref17_Parse.j0, three]
def slashes (l : List ByteArray) : List UInt8 := l.flatMap (fun x => 47 :: x.data.toList)
theorem slashed_eq : ∀ l : List ByteArray, slashed l = if l = [] then [47] else slashes l
  | [] => rfl
  | [x] => by simp [slashed, slashes, Lib.join]
  | x :: y :: l => by
    have ih := slashed_eq (y :: l)
    simp [slashed, slashes, Lib.join] at ih ⊢
    exact ih
theorem slashes_append (a b : List ByteArray) : slashes (a ++ b) = slashes a ++ slashes b := by simp [slashes]
def threeS : Except (Nat × Int) ByteArray → ByteArray × Int × Int
  | .ok s => (s, 0, 0)
  | .error (a, y) => (⟨#[]⟩, a, y)
theorem joinP_three (l : List ByteArray) : joinP l = threeS (joinF l) := by
  unfold joinP threeS
  cases joinF l with
  | ok l => rfl
  | error p => rfl
theorem firstBad_some : ∀ (l : List ByteArray) (j : Nat) (x : ByteArray), l[j]? = some x → goodName x = false → (∀ i y, i < j → l[i]? = some y → goodName y = true) → firstBad 0 l = some j := by
  intro l j x hx hg hall
  have hlt := (List.getElem?_eq_some_iff.1 hx).1
  rw [firstBad_drop l j (by omega) hall, List.drop_eq_getElem_cons hlt, firstBad]
  have : l[j] = x := by rw [List.getElem?_eq_getElem hlt] at hx; simpa using hx
  rw [this, if_pos hg]
theorem dapp (a b : ByteArray) : (a ++ b).data.toList = a.data.toList ++ b.data.toList := by simp
theorem joinF_all (l : List ByteArray) (h16 : l.length ≤ 16) (h : ∀ j x, j < l.length → l[j]? = some x → goodName x = true) : joinF l = if 1024 < (slashed l).length then .error (0, 3) else .ok ⟨(slashed l).toArray⟩ := by
  unfold joinF
  rw [if_neg (by omega), firstBad_none l h]
theorem joinF_bad (l : List ByteArray) (h16 : l.length ≤ 16) (j : Nat) (x : ByteArray) (hx : l[j]? = some x) (hg : goodName x = false) (h : ∀ i y, i < j → l[i]? = some y → goodName y = true) : joinF l = .error (j, 8) := by
  unfold joinF
  rw [if_neg (by omega), firstBad_some l j x hx hg h]
theorem joinLoop (x0 : List ByteArray) (hx : x0.length ≤ 16) : ∀ (d i k : Nat) (s : ByteArray), x0.length - i = d → i ≤ x0.length → d + 110 < k → s.data.toList = slashes (x0.take i) → s.size ≤ 65 * i →
    (∀ j y, j < i → x0[j]? = some y → goodName y = true) →
    slabvaultref17_Join.l0 k x0 s (i : Int) = some (threeS (joinF x0)) := by
  intro d
  induction d with
  | zero =>
    intro i k s hd hi hk hs hsz hall
    obtain ⟨k, rfl⟩ : ∃ m, k = m + 1 := ⟨k - 1, by omega⟩
    have : i = x0.length := by omega
    subst this
    rw [List.take_of_length_le (Nat.le_refl _)] at hs
    have hz := Lib.size_eq s
    rw [hs] at hz
    have hl := ByteArray.toList_eq s
    simp only [slabvaultref17_Join.l0]
    rw [if_neg (by omega), joinF_all x0 hx hall, slashed_eq]
    by_cases h0 : x0 = []
    · subst h0
      have hz0 : s.size = 0 := hz
      have hs0 : s.data.toList = [] := hs
      rw [if_neg (by omega), hl, hs0, if_pos rfl]
      rfl
    · rw [if_neg h0]
      by_cases hb : 1024 < (slashes x0).length
      · rw [if_pos (by omega), if_pos hb]
        rfl
      · rw [if_neg (by omega), if_neg hb, hl, hs]
        have hne : slashes x0 ≠ [] := by
          cases x0 with
          | nil => exact absurd rfl h0
          | cons a t => simp [slashes]
        rw [if_neg hne]
        have : s = ⟨(slashes x0).toArray⟩ := mkB_eq (by rw [hs])
        rw [this]
        rfl
  | succ d ih =>
    intro i k s hd hi hk hs hsz hall
    obtain ⟨k, rfl⟩ : ∃ m, k = m + 1 := ⟨k - 1, by omega⟩
    have hlt : i < x0.length := by omega
    have hrd := rdOf_nat x0 i hlt
    have hxi : x0[i]? = some x0[i] := List.getElem?_eq_getElem hlt
    have htk : x0.take (i + 1) = x0.take i ++ [x0[i]] := by rw [List.take_succ_eq_append_getElem hlt]
    generalize x0[i] = p at hrd hxi htk
    simp only [slabvaultref17_Join.l0]
    rw [if_pos (by omega), if_pos (by omega), hrd, ref_name p k (by omega)]
    simp only [Option.bind_some]
    cases hg : goodName p
    · rw [if_neg (by simp)]
      rw [joinF_bad x0 hx i p hxi hg hall]
      rfl
    · have hpl := good_len p hg
      rw [← Lib.size_eq] at hpl
      have hsz1 : (s ++ (⟨#[47]⟩ : ByteArray)).size = s.size + 1 := by
        rw [Lib.size_eq, dapp, List.length_append, ← Lib.size_eq]
        rfl
      have hsz2 : ((s ++ (⟨#[47]⟩ : ByteArray)) ++ p).size = s.size + 1 + p.size := by
        rw [Lib.size_eq, dapp, List.length_append, ← Lib.size_eq, ← Lib.size_eq, hsz1]
      rw [if_pos rfl, if_pos (by omega), if_pos (by omega), wrap_nat i (by omega)]
      refine ih (i + 1) k _ (by omega) (by omega) (by omega) ?_ (by rw [hsz2]; omega) ?_
      · rw [htk, slashes_append, ← hs, dapp, dapp]
        simp [slashes]
      · intro j y hj hy
        by_cases hji : j < i
        · exact hall j y hji hy
        · obtain rfl : j = i := by omega
          rw [hxi] at hy
          cases hy
          exact hg
theorem ref_join (l : List ByteArray) (k : Nat) (hk : 5000 ≤ k) : slabvaultref17_Join.f k l = some (joinP l) := by
  rw [joinP_three]
  unfold slabvaultref17_Join.f
  by_cases h : 16 < l.length
  · rw [if_pos (by omega)]
    unfold joinF
    rw [if_pos h]
    rfl
  · rw [if_neg (by omega)]
    have := joinLoop l (by omega) l.length 0 k ⟨#[]⟩ (by omega) (by omega) (by omega) rfl (Nat.zero_le _) (fun j y hj => absurd hj (Nat.not_lt_zero _))
    rw [show ((0 : Nat) : Int) = 0 from rfl] at this
    exact this
theorem parseStep_len {acc l : List ByteArray} {p : ByteArray} (h : parseStep acc p = .ok l) (ha : acc.length ≤ 16) : l.length ≤ 16 := by
  unfold parseStep at h
  split at h
  · cases h; exact ha
  · split at h
    · cases h; exact ha
    · split at h
      · cases h
      · split at h
        · cases h
        · cases h; simp; omega
theorem parseL_len : ∀ (ps acc l : List ByteArray), parseL acc ps = .ok l → acc.length ≤ 16 → l.length ≤ 16
  | [], acc, l, h, ha => by cases h; exact ha
  | p :: ps, acc, l, h, ha => by
    unfold parseL at h
    cases hp : parseStep acc p with
    | ok a => rw [hp] at h; exact parseL_len ps a l h (parseStep_len hp ha)
    | error e => rw [hp] at h; cases h
theorem parseF_len {s : ByteArray} {l : List ByteArray} (h : parseF s = .ok l) : l.length ≤ 16 := by
  unfold parseF at h
  split at h
  · cases h
  · split at h
    · cases h
    · exact parseL_len _ _ _ h (by simp)
theorem ref_split (s : ByteArray) (k : Nat) (hk : 5000 ≤ k) : slabvaultref17_Split.f k s = some (splitP s) := by
  unfold slabvaultref17_Split.f
  rw [ref_parse s k hk]
  simp only [Option.bind_some]
  unfold splitP parseP
  cases hf : parseF s with
  | error p =>
    obtain ⟨a, y⟩ := p
    have hy := parseF_err s a y hf
    simp only
    rw [if_neg (by omega)]
  | ok l =>
    have hl := parseF_len hf
    simp only [if_true]
    by_cases h0 : l.length = 0
    · rw [if_pos (by omega), if_pos h0]
    · have hw : wrap64 ((l.length : Int) - 1) = (l.length : Int) - 1 := by unfold wrap64; omega
      rw [if_neg (by omega), if_neg h0, hw, if_pos (by omega), if_pos (by omega), show ((l.length : Int) - 1).toNat = l.length - 1 by omega, ref_join _ k hk]
      simp only [Option.bind_some]
      rw [if_pos (by omega)]
end Go.Proofs.YtbmginkdlcpnpaaDoor.Wk
end
section
namespace Go.Proofs.YtbmginkdlcpnpaaDoor.Wk
open Go.RowKit Go.Lib Go.Proofs.YtbmginkdlcpnpaaDoorW.PrintWords Go.Proofs.YtbmginkdlcpnpaaDoorW.PrintLast Go.Proofs.YtbmginkdlcpnpaaDoorW.PrintMore
set_option linter.unusedVariables false
theorem lives10 : slabvaultlaw17_lives.f 10 = some true := by decide +kernel
theorem lives_ok (k : Nat) (hk : 10 ≤ k) : slabvaultlaw17_lives.f k = some true := at_rounds slabvaultlaw17_lives.mono hk lives10
end Go.Proofs.YtbmginkdlcpnpaaDoor.Wk
end
section
namespace Go.Proofs.YtbmginkdlcpnpaaDoor.Wk
open Go.RowKit Go.Proofs.YtbmginkdlcpnpaaDoorW.PrintWords Go.Proofs.YtbmginkdlcpnpaaDoorW.PrintLast Go.Proofs.YtbmginkdlcpnpaaDoorW.PrintMore
attribute [local go_sem] max2_int min2_int max_two min_two max_three min_three max_four min_four
set_option linter.unusedVariables false
set_option linter.unusedSimpArgs false
def path_Name.f (a0 : ByteArray) : Option Bool := some (goodName a0)
end Go.Proofs.YtbmginkdlcpnpaaDoor.Wk
end
section
namespace Go.Proofs.YtbmginkdlcpnpaaDoor.Wk
open Go.RowKit Go.Proofs.YtbmginkdlcpnpaaDoorW.PrintWords Go.Proofs.YtbmginkdlcpnpaaDoorW.PrintLast Go.Proofs.YtbmginkdlcpnpaaDoorW.PrintMore
attribute [local go_sem] max2_int min2_int max_two min_two max_three min_three max_four min_four
set_option linter.unusedVariables false
set_option linter.unusedSimpArgs false
def slabvaultlaw17_PathNames.f (k : Nat) (a0 : ByteArray) : Option (Bool) := (path_Name.f a0).bind fun t126 => ((slabvaultref09_Name.f k a0).bind fun t127 => (if (t126 == t127) = true then ((slabvaultlaw17_lives.f k).bind fun t128 => (some t128)) else (none)))
def slabvaultlaw17_PathNames.Pure : Prop := ∀ (a0 : ByteArray), a0.size ≤ 140737488351232 → ∃ k, slabvaultlaw17_PathNames.f k a0 = some true
end Go.Proofs.YtbmginkdlcpnpaaDoor.Wk
end
section
namespace Go.Proofs.YtbmginkdlcpnpaaDoor.Wk
open Go.RowKit Go.Proofs.YtbmginkdlcpnpaaDoorW.PrintWords Go.Proofs.YtbmginkdlcpnpaaDoorW.PrintLast Go.Proofs.YtbmginkdlcpnpaaDoorW.PrintMore
attribute [local go_sem] max2_int min2_int max_two min_two max_three min_three max_four min_four
set_option linter.unusedVariables false
set_option linter.unusedSimpArgs false
def slabvaultlaw17_PathParses.f (k : Nat) (a0 : ByteArray) : Option (Bool) := (path_Parse.f a0).bind fun bt146 => ((slabvaultref17_Parse.f k a0).bind fun bt151 => ((slabvaultlaw17_texts.f k bt146.1 bt151.1).bind fun t156 => (if t156 = true then (if bt146.2.1 = bt151.2.1 then (if bt146.2.2 = bt151.2.2 then ((slabvaultlaw17_lives.f k).bind fun t157 => (some t157)) else (none)) else (none)) else (none))))
def slabvaultlaw17_PathParses.Pure : Prop := ∀ (a0 : ByteArray), a0.size ≤ 140737488351232 → ∃ k, slabvaultlaw17_PathParses.f k a0 = some true
end Go.Proofs.YtbmginkdlcpnpaaDoor.Wk
end
section
namespace Go.Proofs.YtbmginkdlcpnpaaDoor.Wk
open Go.RowKit Go.Proofs.YtbmginkdlcpnpaaDoorW.PrintWords Go.Proofs.YtbmginkdlcpnpaaDoorW.PrintLast Go.Proofs.YtbmginkdlcpnpaaDoorW.PrintMore
attribute [local go_sem] max2_int min2_int max_two min_two max_three min_three max_four min_four
set_option linter.unusedVariables false
set_option linter.unusedSimpArgs false
def slabvaultlaw17_PathJoins.f (k : Nat) (l0 : List ByteArray) : Option (Bool) := (some (([] : List ByteArray) : List ByteArray)).bind fun y161 => (if y161.length + l0.length < 8796093022208 then ((some (y161 ++ l0 : List ByteArray)).bind fun y164 => ((path_Join.f y164).bind fun bt167 => ((slabvaultref17_Join.f k l0).bind fun bt170 => (if bt167.1.toList = bt170.1.toList then (if bt167.2.1 = bt170.2.1 then (if bt167.2.2 = bt170.2.2 then ((slabvaultlaw17_texts.f k y164 l0).bind fun t173 => (if t173 = true then ((slabvaultlaw17_lives.f k).bind fun t174 => (some t174)) else (none))) else (none)) else (none)) else (none))))) else (none))
end Go.Proofs.YtbmginkdlcpnpaaDoor.Wk
end
section
namespace Go.Proofs.YtbmginkdlcpnpaaDoor.Wk
open Go.RowKit Go.Proofs.YtbmginkdlcpnpaaDoorW.PrintWords Go.Proofs.YtbmginkdlcpnpaaDoorW.PrintLast Go.Proofs.YtbmginkdlcpnpaaDoorW.PrintMore
attribute [local go_sem] max2_int min2_int max_two min_two max_three min_three max_four min_four
set_option linter.unusedVariables false
set_option linter.unusedSimpArgs false
def slabvaultlaw17_PathBack.j0 : Nat → ByteArray → Option (Bool)
  | 0, _ => none
  | k + 1, x1 => (path_Parse.f x1).bind fun bt184 => (if bt184.2.2 = 0 then ((path_Join.f bt184.1).bind fun bt190 => ((path_Parse.f bt190.1).bind fun bt193 => (if bt190.2.2 = 0 then (if bt193.2.2 = 0 then ((slabvaultlaw17_texts.f k bt193.1 bt184.1).bind fun t198 => (if t198 = true then (if (bt190.1.size : Int) ≤ (x1.size : Int) then ((slabvaultlaw17_lives.f k).bind fun t199 => (some t199)) else (none)) else (none))) else (none)) else (none)))) else (if (bt184.1.length : Int) = 0 then ((slabvaultlaw17_lives.f k).bind fun t189 => (some t189)) else (none)))
def slabvaultlaw17_PathBack.f (k : Nat) (l0 : List ByteArray) (a1 : ByteArray) : Option (Bool) := (path_Join.f l0).bind fun bt175 => (if bt175.2.2 = 0 then ((path_Parse.f bt175.1).bind fun bt178 => (if bt178.2.2 = 0 then (if bt178.2.1 = 0 then ((slabvaultlaw17_texts.f k bt178.1 l0).bind fun t183 => (if t183 = true then (slabvaultlaw17_PathBack.j0 k a1) else (none))) else (none)) else (none))) else (slabvaultlaw17_PathBack.j0 k a1))
end Go.Proofs.YtbmginkdlcpnpaaDoor.Wk
end
section
namespace Go.Proofs.YtbmginkdlcpnpaaDoor.Wk
open Go.RowKit Go.Proofs.YtbmginkdlcpnpaaDoorW.PrintWords Go.Proofs.YtbmginkdlcpnpaaDoorW.PrintLast Go.Proofs.YtbmginkdlcpnpaaDoorW.PrintMore
attribute [local go_sem] max2_int min2_int max_two min_two max_three min_three max_four min_four
set_option linter.unusedVariables false
set_option linter.unusedSimpArgs false
def slabvaultlaw17_PathTogether.j0 : Nat → ByteArray → ByteArray → List ByteArray → List ByteArray → Bool → Option (Bool)
  | 0, _, _, _, _, _ => none
  | k + 1, x0, x1, x5, x8, x39 => if x39 = true then ((slabvaultlaw17_lives.f k).bind fun t210 => (some t210)) else (if x0.size + x1.size ≤ 9223372036854775807 then ((path_Parse.f (x0 ++ x1)).bind fun bt211 => (if (wrap64 ((x5.length : Int) + (x8.length : Int))) > 16 then (if bt211.2.2 = 3 then (if bt211.2.1 = 16 then (if (bt211.1.length : Int) = 0 then ((slabvaultlaw17_lives.f k).bind fun t216 => (some t216)) else (none)) else (none)) else (none)) else (if bt211.2.2 = 0 then ((some (([] : List ByteArray) : List ByteArray)).bind fun y217 => (if y217.length + x5.length < 8796093022208 then ((some (y217 ++ x5 : List ByteArray)).bind fun y220 => (if y220.length + x8.length < 8796093022208 then ((slabvaultlaw17_texts.f k bt211.1 (y220 ++ x8)).bind fun t226 => (if t226 = true then ((slabvaultlaw17_lives.f k).bind fun t227 => (some t227)) else (none))) else (none))) else (none))) else (none)))) else (none))
def slabvaultlaw17_PathTogether.f (k : Nat) (a0 : ByteArray) (a1 : ByteArray) : Option (Bool) := (path_Parse.f a0).bind fun bt200 => ((path_Parse.f a1).bind fun bt205 => (if bt200.2.2 = 0 then (if bt205.2.2 = 0 then (slabvaultlaw17_PathTogether.j0 k a0 a1 bt200.1 bt205.1 (decide ((wrap64 ((a0.size : Int) + (a1.size : Int))) > 1024))) else (slabvaultlaw17_PathTogether.j0 k a0 a1 bt200.1 bt205.1 true)) else (slabvaultlaw17_PathTogether.j0 k a0 a1 bt200.1 bt205.1 true)))
def slabvaultlaw17_PathTogether.Pure : Prop := ∀ (a0 : ByteArray) (a1 : ByteArray), a0.size ≤ 140737488351232 → a1.size ≤ 140737488351232 → ∃ k, slabvaultlaw17_PathTogether.f k a0 a1 = some true
end Go.Proofs.YtbmginkdlcpnpaaDoor.Wk
end
section
namespace Go.Proofs.YtbmginkdlcpnpaaDoor.Wk
open Go.RowKit Go.Proofs.YtbmginkdlcpnpaaDoorW.PrintWords Go.Proofs.YtbmginkdlcpnpaaDoorW.PrintLast Go.Proofs.YtbmginkdlcpnpaaDoorW.PrintMore
attribute [local go_sem] max2_int min2_int max_two min_two max_three min_three max_four min_four
set_option linter.unusedVariables false
set_option linter.unusedSimpArgs false
def path_Split.f (a0 : ByteArray) : Option (ByteArray × ByteArray × Int × Int) := some (splitP a0)
theorem path_Split.calls (a0 : ByteArray) (r1 : ByteArray) (r2 : ByteArray) (r3 : Int) (r4 : Int) (w : World) (hlay_ : Lay w) (h : path_Split.f a0 = some (r1, r2, r3, r4)) :
    Calls Tryd.prog 18 #[.string a0] w fun e w' => e = .returned (.tuple #[.string r1, .string r2, .int .i64 r3, .int .i64 r4]) ∧ Below w.heap.size w w' :=
  split_calls a0 w hlay_ r1 r2 r3 r4 (Option.some.inj h)
end Go.Proofs.YtbmginkdlcpnpaaDoor.Wk
end
section
namespace Go.Proofs.YtbmginkdlcpnpaaDoor.Wk
open Go.RowKit Go.Proofs.YtbmginkdlcpnpaaDoorW.PrintWords Go.Proofs.YtbmginkdlcpnpaaDoorW.PrintLast Go.Proofs.YtbmginkdlcpnpaaDoorW.PrintMore
attribute [local go_sem] max2_int min2_int max_two min_two max_three min_three max_four min_four
set_option linter.unusedVariables false
set_option linter.unusedSimpArgs false
def slabvaultlaw17_PathSplits.f (k : Nat) (a0 : ByteArray) : Option (Bool) := (path_Split.f a0).bind fun bt243 => ((slabvaultref17_Split.f k a0).bind fun bt247 => (if bt243.1.toList = bt247.1.toList then (if bt243.2.1.toList = bt247.2.1.toList then (if bt243.2.2.1 = bt247.2.2.1 then (if bt243.2.2.2 = bt247.2.2.2 then ((slabvaultlaw17_lives.f k).bind fun t251 => (some t251)) else (none)) else (none)) else (none)) else (none)))
set_option maxHeartbeats 8000000 in
set_option maxRecDepth 100000 in
theorem slabvaultlaw17_PathSplits.calls (k : Nat) (a0 : ByteArray) (r : Bool) (w : World) (hlay_ : Lay w) (h : slabvaultlaw17_PathSplits.f k a0 = some r) :
    Calls Tryd.prog 8 #[.string a0] w fun e w' => e = .returned (.bool r) ∧ Below w.heap.size w w' := by
  have HLAY_ := Aside0.mk hlay_
  clear hlay_
  have HB := Aside0.mk (Below.refl w.heap.size w)
  have H : ((path_Split.f a0).bind fun bt243 => ((slabvaultref17_Split.f k a0).bind fun bt247 => (if bt243.1.toList = bt247.1.toList then (if bt243.2.1.toList = bt247.2.1.toList then (if bt243.2.2.1 = bt247.2.2.1 then (if bt243.2.2.2 = bt247.2.2.2 then ((slabvaultlaw17_lives.f k).bind fun t251 => (some t251)) else (none)) else (none)) else (none)) else (none)))) = some r := h
  clear h
  replace H := Option.bind_eq_some_iff.mp H
  obtain ⟨⟨t243, t244, t245, t246⟩, A20, H⟩ := H
  replace H : ((slabvaultref17_Split.f k a0).bind fun bt247 => (if t243.toList = bt247.1.toList then (if t244.toList = bt247.2.1.toList then (if t245 = bt247.2.2.1 then (if t246 = bt247.2.2.2 then ((slabvaultlaw17_lives.f k).bind fun t251 => (some t251)) else (none)) else (none)) else (none)) else (none))) = some r := H
  have A2 := Aside0.mk A20
  clear A20
  replace H := Option.bind_eq_some_iff.mp H
  obtain ⟨⟨t247, t248, t249, t250⟩, A30, H⟩ := H
  replace H : (if t243.toList = t247.toList then (if t244.toList = t248.toList then (if t245 = t249 then (if t246 = t250 then ((slabvaultlaw17_lives.f k).bind fun t251 => (some t251)) else (none)) else (none)) else (none)) else (none)) = some r := H
  have A3 := Aside0.mk A30
  clear A30
  by_cases c4 : t243.toList = t247.toList
  · rw [if_pos c4] at H
    have c4b0 : (t243.toList == t247.toList) = true := beq_iff_eq.mpr c4
    have c4b1 : (t243.toList != t247.toList) = false := bne_eq_false_iff_eq.mpr c4
    clear c4
    by_cases c5 : t244.toList = t248.toList
    · rw [if_pos c5] at H
      have c5b0 : (t244.toList == t248.toList) = true := beq_iff_eq.mpr c5
      have c5b1 : (t244.toList != t248.toList) = false := bne_eq_false_iff_eq.mpr c5
      clear c5
      by_cases c6 : t245 = t249
      · rw [if_pos c6] at H
        have c6b0 : (t245 == t249) = true := beq_iff_eq.mpr c6
        have c6b1 : (t245 != t249) = false := bne_eq_false_iff_eq.mpr c6
        clear c6
        by_cases c7 : t246 = t250
        · rw [if_pos c7] at H
          have c7b0 : (t246 == t250) = true := beq_iff_eq.mpr c7
          have c7b1 : (t246 != t250) = false := bne_eq_false_iff_eq.mpr c7
          clear c7
          replace H := Option.bind_eq_some_iff.mp H
          obtain ⟨t251, A80, H⟩ := H
          replace H : (some t251) = some r := H
          have A8 := Aside0.mk A80
          clear A80
          obtain rfl := Option.some.inj H
          go_enter Tryd.func8, Tryd.ntmps8
          go_wp2_with (first | ((with_reducible refine gate_callee (f := 18) rfl ?_); refine goesL_ (some 13) rfl rfl Tryd.func18 (by kernel_rfl) rfl #[.string a0] rfl (by (try simp only [List.map_toArray, List.map_cons, List.map_nil]); first | done | rfl | (simp only [List.length_drop, List.length_take]; rfl)) ?_; (with_reducible refine (path_Split.calls a0 t243 t244 t245 t246 _ (lay_below HLAY_.out (by repeat (first | (with_reducible first | exact HB.out | apply below_alloc | apply pw_below_drewN | apply below_drew1) | exact HB.out))) A2.out).mono ?_); rintro e w9 ⟨rfl, hb⟩; refine ⟨_, rfl, ?_⟩; have n0_ := Aside0.mk (below_step (by repeat (first | (with_reducible first | exact HB.out | apply below_alloc | apply pw_below_drewN | apply below_drew1) | exact HB.out)) hb); clear HB; have HB := n0_; clear n0_; (try clear hb); (try clear hb2); (try clear hk); (try clear hi)) | ((with_reducible refine gate_callee (f := 19) rfl ?_); refine goesL_ (some 20) rfl rfl Tryd.func19 (by kernel_rfl) rfl #[.string a0] rfl (by (try simp only [List.map_toArray, List.map_cons, List.map_nil]); first | done | rfl | (simp only [List.length_drop, List.length_take]; rfl)) ?_; (with_reducible refine (slabvaultref17_Split.calls k a0 t247 t248 t249 t250 _ A3.out).mono ?_); rintro e w10 ⟨rfl, hb⟩; refine ⟨_, rfl, ?_⟩; have n0_ := Aside0.mk (below_step (by repeat (first | (with_reducible first | exact HB.out | apply below_alloc | apply pw_below_drewN | apply below_drew1) | exact HB.out)) hb); clear HB; have HB := n0_; clear n0_; (try clear hb); (try clear hb2); (try clear hk); (try clear hi)) | (go_at_call 12; (with_reducible refine (slabvaultlaw17_lives.calls k  t251 _ (lay_below HLAY_.out (by repeat (first | (with_reducible first | exact HB.out | apply below_alloc | apply pw_below_drewN | apply below_drew1) | exact HB.out))) A8.out).mono ?_); rintro e w11 ⟨rfl, hb⟩; have n0_ := Aside0.mk (below_step (by repeat (first | (with_reducible first | exact HB.out | apply below_alloc | apply pw_below_drewN | apply below_drew1) | exact HB.out)) hb); clear HB; have HB := n0_; clear n0_; (try clear hb); (try clear hb2); (try clear hk); (try clear hi)))
          go_ret
          exact ⟨by first | rfl | (simp [errW_none, errW_some] <;> rfl) | (simp [*, errW_none, errW_some] <;> rfl), by repeat (first | (with_reducible first | exact HB.out | apply below_alloc | apply pw_below_drewN | apply below_drew1) | exact HB.out)⟩
        · rw [if_neg c7] at H
          exact absurd H (by simp)
      · rw [if_neg c6] at H
        exact absurd H (by simp)
    · rw [if_neg c5] at H
      exact absurd H (by simp)
  · rw [if_neg c4] at H
    exact absurd H (by simp)
def slabvaultlaw17_PathSplits.Pure : Prop := ∀ (a0 : ByteArray), a0.size ≤ 140737488351232 → ∃ k, slabvaultlaw17_PathSplits.f k a0 = some true
end Go.Proofs.YtbmginkdlcpnpaaDoor.Wk
end
section
namespace Go.Proofs.YtbmginkdlcpnpaaDoor.Wk
open Go.RowKit Go.Proofs.YtbmginkdlcpnpaaDoorW.PrintWords Go.Proofs.YtbmginkdlcpnpaaDoorW.PrintLast Go.Proofs.YtbmginkdlcpnpaaDoorW.PrintMore
attribute [local go_sem] max2_int min2_int max_two min_two max_three min_three max_four min_four
set_option linter.unusedVariables false
set_option linter.unusedSimpArgs false
def slabvaultlaw17_PathLast.f (k : Nat) (a0 : ByteArray) : Option (Bool) := (path_Parse.f a0).bind fun bt252 => ((path_Split.f a0).bind fun bt257 => (if bt252.2.2 = 0 then (if (bt252.1.length : Int) = 0 then (if bt257.2.2.2 = 11 then (if bt257.1.toList = ([] : List UInt8) then (if bt257.2.1.toList = ([] : List UInt8) then (if bt257.2.2.1 = 0 then ((slabvaultlaw17_lives.f k).bind fun t262 => (some t262)) else (none)) else (none)) else (none)) else (none)) else ((path_Parse.f bt257.1).bind fun bt263 => (if bt257.2.2.2 = 0 then (if bt263.2.2 = 0 then (if 0 ≤ (wrap64 ((bt252.1.length : Int) - 1)) then (if (wrap64 ((bt252.1.length : Int) - 1)) < (bt252.1.length : Int) then (if bt257.2.1.toList = (rdOf ByteArray.empty bt252.1 (wrap64 ((bt252.1.length : Int) - 1))).toList then (if (wrap64 ((bt252.1.length : Int) - 1)) ≤ (bt252.1.length : Int) then ((slabvaultlaw17_texts.f k bt263.1 (bt252.1.take ((wrap64 ((bt252.1.length : Int) - 1)) : Int).toNat)).bind fun t273 => (if t273 = true then ((path_Name.f bt257.2.1).bind fun t274 => (if t274 = true then ((slabvaultlaw17_lives.f k).bind fun t275 => (some t275)) else (none))) else (none))) else (none)) else (none)) else (none)) else (none)) else (none)) else (none)))) else (if bt257.2.2.2 = bt252.2.2 then (if bt257.2.2.1 = bt252.2.1 then (if bt257.1.toList = ([] : List UInt8) then (if bt257.2.1.toList = ([] : List UInt8) then ((slabvaultlaw17_lives.f k).bind fun t261 => (some t261)) else (none)) else (none)) else (none)) else (none))))
def slabvaultlaw17_PathLast.Pure : Prop := ∀ (a0 : ByteArray), a0.size ≤ 140737488351232 → ∃ k, slabvaultlaw17_PathLast.f k a0 = some true
end Go.Proofs.YtbmginkdlcpnpaaDoor.Wk
end
section
namespace Go.Proofs.YtbmginkdlcpnpaaDoor.Wk
open Go.RowKit Go.Lib Go.Proofs.YtbmginkdlcpnpaaDoorW.PrintWords Go.Proofs.YtbmginkdlcpnpaaDoorW.PrintLast Go.Proofs.YtbmginkdlcpnpaaDoorW.PrintMore
set_option linter.unusedVariables false
theorem splits_pure (s : ByteArray) : ∃ k, slabvaultlaw17_PathSplits.f k s = some true := by
  refine ⟨5000, ?_⟩
  unfold slabvaultlaw17_PathSplits.f path_Split.f
  simp only [Option.bind_some]
  rw [ref_split s 5000 (by omega)]
  simp only [Option.bind_some, if_true]
  rw [lives_ok 5000 (by omega)]
  rfl
end Go.Proofs.YtbmginkdlcpnpaaDoor.Wk
end
