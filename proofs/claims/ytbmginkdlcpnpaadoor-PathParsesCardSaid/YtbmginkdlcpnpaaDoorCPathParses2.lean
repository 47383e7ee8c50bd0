-- Texts that the row PathParses leans on, joined by wip/tools/mkclaim.py: Wk46, Wk48, Wk55, Plain17, Plain17b, Wk13, Wk44, Wk47, Wk49, Wk50, Wk51, Wk54, Wk56, Wk57, Plain17c
import Derived.Test.YtbmginkdlcpnpaaDoorCPathParses1
section
namespace Go.Proofs.YtbmginkdlcpnpaaDoor.Wk
open Go.RowKit Go.Proofs.YtbmginkdlcpnpaaDoorW.PrintWords Go.Proofs.YtbmginkdlcpnpaaDoorW.PrintLast Go.Proofs.YtbmginkdlcpnpaaDoorW.PrintMore
attribute [local go_sem] max2_int min2_int max_two min_two max_three min_three max_four min_four
set_option linter.unusedVariables false
set_option linter.unusedSimpArgs false
mutual
def slabvaultref17_Parse.j0 : Nat → ByteArray → Bool → Option (List ByteArray × Int × Int)
  | 0, _, _ => none
  | k + 1, x0, x18 => if x18 = true then (some (([] : List ByteArray), 0, 9)) else ((slabvaultref17_parts.f k x0).bind fun t135 => (slabvaultref17_Parse.l0 k ([] : List ByteArray) t135 0))
def slabvaultref17_Parse.l0 : Nat → List ByteArray → List ByteArray → Int → Option (List ByteArray × Int × Int)
  | 0, _, _, _ => none
  | k + 1, x5, x6, x7 => if x7 < (x6.length : Int) then (if 0 ≤ x7 then (if (rdOf ByteArray.empty x6 x7).toList = ([] : List UInt8) then (slabvaultref17_Parse.j2 k x5 x6 x7 true) else (slabvaultref17_Parse.j2 k x5 x6 x7 ((rdOf ByteArray.empty x6 x7).toList == ([46] : List UInt8)))) else (none)) else (some (x5, 0, 0))
def slabvaultref17_Parse.j2 : Nat → List ByteArray → List ByteArray → Int → Bool → Option (List ByteArray × Int × Int)
  | 0, _, _, _, _ => none
  | k + 1, x5, x6, x7, x38 => if x38 = true then (slabvaultref17_Parse.l0 k x5 x6 (wrap64 (x7 + 1))) else (if 0 ≤ x7 then (if x7 < (x6.length : Int) then ((slabvaultref09_Name.f k (rdOf ByteArray.empty x6 x7)).bind fun t141 => (if t141 = true then (if (x5.length : Int) = 16 then (some (([] : List ByteArray), 16, 3)) else (if x5.length < 8796093022208 then (slabvaultref17_Parse.l0 k (x5 ++ [rdOf ByteArray.empty x6 x7]) x6 (wrap64 (x7 + 1))) else (none))) else (some (([] : List ByteArray), (x5.length : Int), 8)))) else (none)) else (none))
end
def slabvaultref17_Parse.f (k : Nat) (a0 : ByteArray) : Option (List ByteArray × Int × Int) := if (a0.size : Int) > 1024 then (some (([] : List ByteArray), 0, 3)) else (if (a0.size : Int) = 0 then (slabvaultref17_Parse.j0 k a0 true) else (if 0 < (a0.size : Int) then (slabvaultref17_Parse.j0 k a0 ((bt a0 0) != 47)) else (none)))
set_option maxHeartbeats 8000000 in
set_option maxRecDepth 100000 in
theorem slabvaultref17_Parse.calls (k : Nat) (a0 : ByteArray) (r1 : List ByteArray) (r2 : Int) (r3 : Int) (w : World) (h : slabvaultref17_Parse.f k a0 = some (r1, r2, r3)) :
    Calls Tryd.prog 14 #[.string a0] w fun e w' => ∃ v0_ : Value, e = .returned (.tuple #[v0_, .int .i64 r2, .int .i64 r3]) ∧ Kd.R Kd.string 9 w' w.heap.size (fun _ => True) v0_ r1 ∧ Below w.heap.size w w' := by
  have HB := Aside0.mk (Below.refl w.heap.size w)
  have H : (if (a0.size : Int) > 1024 then (some (([] : List ByteArray), 0, 3)) else (if (a0.size : Int) = 0 then (slabvaultref17_Parse.j0 k a0 true) else (if 0 < (a0.size : Int) then (slabvaultref17_Parse.j0 k a0 ((bt a0 0) != 47)) else (none)))) = some (r1, r2, r3) := h
  clear h
  by_cases c2 : (a0.size : Int) > 1024
  · rw [if_pos c2] at H
    have c2b0 : decide (1024 < (a0.size : Int)) = true := decide_eq_true c2
    have c2b1 : decide (1024 < a0.size) = true := decide_eq_true (by omega)
    clear c2
    simp only [Option.some.injEq, Prod.mk.injEq] at H
    obtain ⟨rfl, rfl, rfl⟩ := H
    go_enter Tryd.func14, Tryd.ntmps14
    go_wp2
    go_ret3
    exact ⟨_, by first | rfl | (simp [errW_none, errW_some] <;> rfl) | (simp [*, errW_none, errW_some] <;> rfl), by first | exact Kd.R_nil _ _ _ _ _ | exact Kd.N_nil _ _ _ _ _ | exact Kd.V_nil _ _ _ _ _ | exact Kd.Q_nil _ _ _ _ _ | exact Kd.S_nil _ _ _ _ _, by repeat (first | (with_reducible first | exact HB.out | apply below_alloc | apply pw_below_drewN | apply below_drew1) | exact HB.out)⟩
  · rw [if_neg c2] at H
    have c2b0 : decide (1024 < (a0.size : Int)) = false := decide_eq_false c2
    have c2b1 : decide (1024 < a0.size) = false := decide_eq_false (by omega)
    clear c2
    have HC3 := Aside0.mk H
    clear H
    go_enter Tryd.func14, Tryd.ntmps14
    go_upto_region 3 with (fail)
    go_cut [18] (fun v18 wc => ∃ (kq : Nat) (x18_2 : Bool), v18 = .bool x18_2 ∧ Aside0 (slabvaultref17_Parse.j0 kq a0 x18_2 = some (r1, r2, r3)) ∧ Aside0 (kq ≤ k) ∧ Aside0 (Below w.heap.size w wc))
    case first =>
      have H := HC3.out
      clear HC3
      by_cases c4 : (a0.size : Int) = 0
      · rw [if_pos c4] at H
        have c4b0 : ((a0.size : Int) == 0) = true := beq_iff_eq.mpr c4
        have c4b1 : ((a0.size : Int) != 0) = false := bne_eq_false_iff_eq.mpr c4
        clear c4
        (first | rw [c4b0] | (simp only [i64_w, i32_w]; rw [c4b0]) | skip)
        have H' := Aside0.mk H
        clear H
        go_wp2
        go_meet
        case rel => exact ⟨_, (true), (by first | rfl | (simp; done) | (simp [*]; done)), H', ⟨by first | omega | exact Nat.le_refl _⟩, ⟨by repeat (first | (with_reducible first | exact HB.out | apply below_alloc | apply pw_below_drewN | apply below_drew1) | exact HB.out)⟩⟩
      · rw [if_neg c4] at H
        have c4b0 : ((a0.size : Int) == 0) = false := beq_eq_false_iff_ne.mpr c4
        have c4b1 : ((a0.size : Int) != 0) = true := bne_iff_ne.mpr c4
        (first | rw [c4b0] | (simp only [i64_w, i32_w]; rw [c4b0]) | skip)
        by_cases c5 : 0 < (a0.size : Int)
        · rw [if_pos c5] at H
          have c5b0 : decide (0 < (a0.size : Int)) = true := decide_eq_true c5
          have c5b1 : decide (0 < a0.size) = true := decide_eq_true (by omega)
          clear c5
          have H' := Aside0.mk H
          clear H
          have p6 : 0 ≤ (0 : Int) := (by omega)
          have q6 : 0 < a0.size := (by have : (0 : Int) < (a0.size : Int) := of_decide_eq_true (by first | (with_reducible assumption) | assumption); omega)
          have hx6 : ∀ h : 0 < a0.size, ((a0[0]'h).toNat : Int) = bt a0 0 := bt_at a0 0
          clear p6
          have qi6 : (0 < (a0.size : Int)) = True := eq_true (of_decide_eq_true (by first | (with_reducible assumption) | assumption))
          replace q6 := eq_true q6
          go_wp2
          go_meet
          case rel => exact ⟨_, (((bt a0 0) != 47)), (by first | rfl | (simp; done) | (simp [*]; done)), H', ⟨by first | omega | exact Nat.le_refl _⟩, ⟨by repeat (first | (with_reducible first | exact HB.out | apply below_alloc | apply pw_below_drewN | apply below_drew1) | exact HB.out)⟩⟩
        · rw [if_neg c5] at H
          exact absurd H (by simp)
    case rest =>
      clear HC3
      try clear c1
      try clear c2
      try clear c2b0
      try clear c2b1
      try clear p2
      try clear c4
      try clear c4b0
      try clear c4b1
      try clear c5
      try clear c5b0
      try clear c5b1
      try clear p6
      try clear q6
      try clear hx6
      try clear qi6
      try clear p6
      try clear q6
      obtain ⟨kq, x18_2, rfl, HA, HJ2, HB⟩ := hcut
      cases kq with
      | zero => exact absurd HA.out (by simp [slabvaultref17_Parse.j0])
      | succ kj2 =>
        have H := HA.out
        clear HA
        simp only [slabvaultref17_Parse.j0] at H
        by_cases c7 : x18_2 = true
        · subst c7
          have H1 : (some (([] : List ByteArray), 0, 9)) = some (r1, r2, r3) := by rw [if_pos rfl] at H; exact H
          clear H
          have H := H1
          clear H1
          simp only [Option.some.injEq, Prod.mk.injEq] at H
          obtain ⟨rfl, rfl, rfl⟩ := H
          go_wp2
          go_ret3
          exact ⟨_, by first | rfl | (simp [errW_none, errW_some] <;> rfl) | (simp [*, errW_none, errW_some] <;> rfl), by first | exact Kd.R_nil _ _ _ _ _ | exact Kd.N_nil _ _ _ _ _ | exact Kd.V_nil _ _ _ _ _ | exact Kd.Q_nil _ _ _ _ _ | exact Kd.S_nil _ _ _ _ _, by repeat (first | (with_reducible first | exact HB.out | apply below_alloc | apply pw_below_drewN | apply below_drew1) | exact HB.out)⟩
        · replace c7 := Bool.eq_false_iff.mpr c7
          subst c7
          have H1 : ((slabvaultref17_parts.f kj2 a0).bind fun t135 => (slabvaultref17_Parse.l0 kj2 ([] : List ByteArray) t135 0)) = some (r1, r2, r3) := by rw [if_neg (show ¬ (false = true) by decide)] at H; exact H
          clear H
          have H := H1
          clear H1
          replace H := Option.bind_eq_some_iff.mp H
          obtain ⟨t135, A80, H⟩ := H
          replace H : (slabvaultref17_Parse.l0 kj2 ([] : List ByteArray) t135 0) = some (r1, r2, r3) := H
          have A8 := Aside0.mk A80
          clear A80
          have H' := Aside0.mk H
          clear H
          go_wp2_with (first | ((with_reducible refine gate_callee (f := 23) rfl ?_); refine goesL_ (some 20) rfl rfl Tryd.func23 (by kernel_rfl) rfl #[.string a0] rfl (by (try simp only [List.map_toArray, List.map_cons, List.map_nil]); first | done | rfl | (simp only [List.length_drop, List.length_take]; rfl)) ?_; (with_reducible refine (slabvaultref17_parts.calls kj2 a0 t135 _ A8.out).mono ?_); rintro e w9 ⟨v136, rfl, ho0, hb⟩; refine ⟨_, rfl, ?_⟩; have n0_ := Aside0.mk (Kd.R_lower ho0 (below_size (by repeat (first | (with_reducible first | exact HB.out | apply below_alloc | apply pw_below_drewN | apply below_drew1) | exact HB.out)))); have n1_ := Aside0.mk (below_step (by repeat (first | (with_reducible first | exact HB.out | apply below_alloc | apply pw_below_drewN | apply below_drew1) | exact HB.out)) hb); clear HB; have HO137 := n0_; have HB := n1_; clear n0_ n1_; (try clear hb); (try clear hb2); (try clear hk); (try clear hi); (try clear ho0)))
          go_loopg [5, 7] kj2 (fun kq v5 v7 w' => ∃ (x5_2 : List ByteArray) (x7_2 : Int), v7 = .int .i64 x7_2 ∧ Aside0 (slabvaultref17_Parse.l0 kq x5_2 t135 x7_2 = some (r1, r2, r3)) ∧ Aside0 (kq ≤ kj2) ∧ Aside0 (Kd.R Kd.string 9 w' w.heap.size (fun k_ => some k_ ≠ (v136 : Value).ownBlock) v5 x5_2) ∧ Aside0 (Kd.R Kd.string 9 w' w.heap.size (fun k_ => some k_ ≠ (v5 : Value).ownBlock) v136 t135) ∧ Aside0 (Below w.heap.size w w'))
          case atStart => exact ⟨(([] : List ByteArray)), (0), (by first | rfl | (simp; done) | (simp [*]; done)), H', ⟨Nat.le_refl _⟩, ⟨by first | exact Kd.R_nil _ _ _ _ _ | exact Kd.N_nil _ _ _ _ _ | exact Kd.V_nil _ _ _ _ _ | exact Kd.Q_nil _ _ _ _ _ | exact Kd.S_nil _ _ _ _ _⟩, ⟨by (with_reducible repeat (first | apply Kd.R_alloc | apply Kd.R_drewN | apply Kd.R_drew)); exact Kd.R_mono HO137.out (fun _ hk => (by simp [Value.ownBlock]))⟩, ⟨by repeat (first | (with_reducible first | exact HB.out | apply below_alloc | apply pw_below_drewN | apply below_drew1) | exact HB.out)⟩⟩
          case round =>
            clear H'
            try clear c1
            try clear c2
            try clear c2b0
            try clear c2b1
            try clear p2
            try clear c4
            try clear c4b0
            try clear c4b1
            try clear c5
            try clear c5b0
            try clear c5b1
            try clear p6
            try clear q6
            try clear hx6
            try clear qi6
            try clear c7
            try clear p2
            try clear p6
            try clear q6
            obtain ⟨x5_2, x7_2, rfl, HA, HK2, HO_5, HO_6, HB⟩ := hrel
            cases gk with
            | zero => exact absurd HA.out (by simp [slabvaultref17_Parse.l0])
            | succ k2 =>
              have H := HA.out
              clear HA
              simp only [slabvaultref17_Parse.l0] at H
              by_cases c10 : x7_2 < (t135.length : Int)
              · rw [if_pos c10] at H
                have c10b0 : decide (x7_2 < (t135.length : Int)) = true := decide_eq_true c10
                clear c10
                have HC11 := Aside0.mk H
                clear H
                obtain ⟨Ao12, co12, eo12⟩ := Kd.R_slice HO_6.out
                subst eo12
                go_upto_region 10 with (fail)
                go_cut [38] (fun v38 wc => ∃ (kq : Nat) (x38_10 : Bool), v38 = .bool x38_10 ∧ Aside0 (slabvaultref17_Parse.j2 kq x5_2 t135 x7_2 x38_10 = some (r1, r2, r3)) ∧ Aside0 (kq ≤ k2) ∧ Aside0 (Kd.R Kd.string 9 wc w.heap.size (fun k_ => some k_ ≠ ((.slice Ao12 t135.length co12) : Value).ownBlock) u5 x5_2) ∧ Aside0 (Kd.R Kd.string 9 wc w.heap.size (fun k_ => some k_ ≠ (u5 : Value).ownBlock) (.slice Ao12 t135.length co12) t135) ∧ Aside0 (Below w.heap.size w wc))
                case first =>
                  have H := HC11.out
                  clear HC11
                  by_cases c13 : 0 ≤ x7_2
                  · rw [if_pos c13] at H
                    have c13b0 : decide (0 ≤ x7_2) = true := decide_eq_true c13
                    clear c13
                    (first | rw [c13b0] | (simp only [i64_w, i32_w]; rw [c13b0]) | skip)
                    by_cases c14 : (rdOf ByteArray.empty t135 x7_2).toList = ([] : List UInt8)
                    · rw [if_pos c14] at H
                      have c14b0 : ((rdOf ByteArray.empty t135 x7_2).toList == ([] : List UInt8)) = true := beq_iff_eq.mpr c14
                      have c14b1 : ((rdOf ByteArray.empty t135 x7_2).toList != ([] : List UInt8)) = false := bne_eq_false_iff_eq.mpr c14
                      clear c14
                      have H' := Aside0.mk H
                      clear H
                      have p138 : 0 ≤ (x7_2 : Int) := of_decide_eq_true (by first | (with_reducible assumption) | assumption)
                      have q138 : x7_2 < (t135.length : Int) := of_decide_eq_true (by first | (with_reducible assumption) | assumption)
                      obtain ⟨ad138, e138, hx138_0⟩ := Kd.at_string (Kd.R_reads' HO_6.out).2.2 x7_2 p138 q138
                      cases e138
                      replace p138 := eq_true p138
                      replace q138 := eq_true q138
                      go_wp2
                      go_meet
                      case rel => exact ⟨_, (true), (by first | rfl | (simp; done) | (simp [*]; done)), H', ⟨by have := HJ2.out; have := HK2.out; first | omega | exact Nat.le_refl _⟩, ⟨by (with_reducible repeat (first | apply Kd.R_alloc | apply Kd.R_drewN | apply Kd.R_drew)); exact HO_5.out⟩, ⟨by (with_reducible repeat (first | apply Kd.R_alloc | apply Kd.R_drewN | apply Kd.R_drew)); exact HO_6.out⟩, ⟨by repeat (first | (with_reducible first | exact HB.out | apply below_alloc | apply pw_below_drewN | apply below_drew1) | exact HB.out)⟩⟩
                    · rw [if_neg c14] at H
                      have c14b0 : ((rdOf ByteArray.empty t135 x7_2).toList == ([] : List UInt8)) = false := beq_eq_false_iff_ne.mpr c14
                      have c14b1 : ((rdOf ByteArray.empty t135 x7_2).toList != ([] : List UInt8)) = true := bne_iff_ne.mpr c14
                      have H' := Aside0.mk H
                      clear H
                      have p138 : 0 ≤ (x7_2 : Int) := of_decide_eq_true (by first | (with_reducible assumption) | assumption)
                      have q138 : x7_2 < (t135.length : Int) := of_decide_eq_true (by first | (with_reducible assumption) | assumption)
                      obtain ⟨ad138, e138, hx138_0⟩ := Kd.at_string (Kd.R_reads' HO_6.out).2.2 x7_2 p138 q138
                      cases e138
                      replace p138 := eq_true p138
                      replace q138 := eq_true q138
                      have p139 : 0 ≤ (x7_2 : Int) := of_decide_eq_true (by first | (with_reducible assumption) | assumption)
                      have q139 : x7_2 < (t135.length : Int) := of_decide_eq_true (by first | (with_reducible assumption) | assumption)
                      obtain ⟨ad139, e139, hx139_0⟩ := Kd.at_string (Kd.R_reads' HO_6.out).2.2 x7_2 p139 q139
                      obtain rfl : ad138 = ad139 := (by injection e139)
                      replace p139 := eq_true p139
                      replace q139 := eq_true q139
                      go_wp2
                      go_meet
                      case rel => exact ⟨_, (((rdOf ByteArray.empty t135 x7_2).toList == ([46] : List UInt8))), (by first | rfl | (simp; done) | (simp [*]; done)), H', ⟨by have := HJ2.out; have := HK2.out; first | omega | exact Nat.le_refl _⟩, ⟨by (with_reducible repeat (first | apply Kd.R_alloc | apply Kd.R_drewN | apply Kd.R_drew)); exact HO_5.out⟩, ⟨by (with_reducible repeat (first | apply Kd.R_alloc | apply Kd.R_drewN | apply Kd.R_drew)); exact HO_6.out⟩, ⟨by repeat (first | (with_reducible first | exact HB.out | apply below_alloc | apply pw_below_drewN | apply below_drew1) | exact HB.out)⟩⟩
                  · rw [if_neg c13] at H
                    exact absurd H (by simp)
                case rest =>
                  clear HC11
                  try clear c1
                  try clear p1
                  try clear q1
                  try clear hx1
                  try clear c2
                  try clear c2b0
                  try clear c2b1
                  try clear p2
                  try clear c4
                  try clear c4b0
                  try clear c4b1
                  try clear c5
                  try clear c5b0
                  try clear c5b1
                  try clear p6
                  try clear q6
                  try clear hx6
                  try clear qi6
                  try clear c7
                  try clear c10
                  try clear c10b0
                  try clear c13
                  try clear c13b0
                  try clear p13
                  try clear q13
                  try clear hx13
                  try clear c14
                  try clear c14b0
                  try clear c14b1
                  try clear hx138_0
                  try clear hx139_0
                  try clear p138
                  try clear p139
                  try clear p2
                  try clear p6
                  try clear q138
                  try clear q139
                  try clear q6
                  obtain ⟨kq, x38_10, rfl, HA, HJ10, HO_5, HO_6, HB⟩ := hcut
                  cases kq with
                  | zero => exact absurd HA.out (by simp [slabvaultref17_Parse.j2])
                  | succ kj10 =>
                    have H := HA.out
                    clear HA
                    simp only [slabvaultref17_Parse.j2] at H
                    by_cases c15 : x38_10 = true
                    · subst c15
                      have H1 : (slabvaultref17_Parse.l0 kj10 x5_2 t135 (wrap64 (x7_2 + 1))) = some (r1, r2, r3) := by rw [if_pos rfl] at H; exact H
                      clear H
                      have H := H1
                      clear H1
                      have H' := Aside0.mk H
                      clear H
                      go_wp2
                      go_roundg kj10
                      case measure => have := HJ2.out; have := HK2.out; have := HJ10.out; omega
                      case rel => exact ⟨(x5_2), (wrap64 (x7_2 + 1)), (by first | rfl | (simp; done) | (simp [*]; done)), H', ⟨by have := HJ2.out; have := HK2.out; have := HJ10.out; omega⟩, ⟨by (with_reducible repeat (first | apply Kd.R_alloc | apply Kd.R_drewN | apply Kd.R_drew)); exact HO_5.out⟩, ⟨by (with_reducible repeat (first | apply Kd.R_alloc | apply Kd.R_drewN | apply Kd.R_drew)); exact HO_6.out⟩, ⟨by repeat (first | (with_reducible first | exact HB.out | apply below_alloc | apply pw_below_drewN | apply below_drew1) | exact HB.out)⟩⟩
                    · replace c15 := Bool.eq_false_iff.mpr c15
                      subst c15
                      have H1 : (if 0 ≤ x7_2 then (if x7_2 < (t135.length : Int) then ((slabvaultref09_Name.f kj10 (rdOf ByteArray.empty t135 x7_2)).bind fun t141 => (if t141 = true then (if (x5_2.length : Int) = 16 then (some (([] : List ByteArray), 16, 3)) else (if x5_2.length < 8796093022208 then (slabvaultref17_Parse.l0 kj10 (x5_2 ++ [rdOf ByteArray.empty t135 x7_2]) t135 (wrap64 (x7_2 + 1))) else (none))) else (some (([] : List ByteArray), (x5_2.length : Int), 8)))) else (none)) else (none)) = some (r1, r2, r3) := by rw [if_neg (show ¬ (false = true) by decide)] at H; exact H
                      clear H
                      have H := H1
                      clear H1
                      by_cases c16 : 0 ≤ x7_2
                      · rw [if_pos c16] at H
                        have c16b0 : decide (0 ≤ x7_2) = true := decide_eq_true c16
                        clear c16
                        by_cases c17 : x7_2 < (t135.length : Int)
                        · rw [if_pos c17] at H
                          have c17b0 : decide (x7_2 < (t135.length : Int)) = true := decide_eq_true c17
                          clear c17
                          replace H := Option.bind_eq_some_iff.mp H
                          obtain ⟨t141, A180, H⟩ := H
                          replace H : (if t141 = true then (if (x5_2.length : Int) = 16 then (some (([] : List ByteArray), 16, 3)) else (if x5_2.length < 8796093022208 then (slabvaultref17_Parse.l0 kj10 (x5_2 ++ [rdOf ByteArray.empty t135 x7_2]) t135 (wrap64 (x7_2 + 1))) else (none))) else (some (([] : List ByteArray), (x5_2.length : Int), 8))) = some (r1, r2, r3) := H
                          have A18 := Aside0.mk A180
                          clear A180
                          by_cases c19 : t141 = true
                          · subst c19
                            have H1 : (if (x5_2.length : Int) = 16 then (some (([] : List ByteArray), 16, 3)) else (if x5_2.length < 8796093022208 then (slabvaultref17_Parse.l0 kj10 (x5_2 ++ [rdOf ByteArray.empty t135 x7_2]) t135 (wrap64 (x7_2 + 1))) else (none))) = some (r1, r2, r3) := by rw [if_pos rfl] at H; exact H
                            clear H
                            have H := H1
                            clear H1
                            by_cases c20 : (x5_2.length : Int) = 16
                            · rw [if_pos c20] at H
                              have c20b0 : ((x5_2.length : Int) == 16) = true := beq_iff_eq.mpr c20
                              have c20b1 : ((x5_2.length : Int) != 16) = false := bne_eq_false_iff_eq.mpr c20
                              clear c20
                              simp only [Option.some.injEq, Prod.mk.injEq] at H
                              obtain ⟨rfl, rfl, rfl⟩ := H
                              have p140 : 0 ≤ (x7_2 : Int) := of_decide_eq_true (by first | (with_reducible assumption) | assumption)
                              have q140 : x7_2 < (t135.length : Int) := of_decide_eq_true (by first | (with_reducible assumption) | assumption)
                              obtain ⟨ad140, e140, hx140_0⟩ := Kd.at_string (Kd.R_reads' HO_6.out).2.2 x7_2 p140 q140
                              cases e140
                              replace p140 := eq_true p140
                              replace q140 := eq_true q140
                              go_wp2_with (first | ((with_reducible refine gate_callee (f := 11) rfl ?_); refine goesL_ (some 43) rfl rfl Tryd.func11 (by kernel_rfl) rfl #[.string (rdOf ByteArray.empty t135 x7_2)] rfl (by (try simp only [List.map_toArray, List.map_cons, List.map_nil]); first | done | rfl | (simp only [List.length_drop, List.length_take]; rfl)) ?_; (with_reducible refine (slabvaultref09_Name.calls kj10 (rdOf ByteArray.empty t135 x7_2) true _ A18.out).mono ?_); rintro e w' ⟨rfl, ⟨nd, rfl⟩⟩; refine ⟨_, rfl, ?_⟩; obtain ⟨Ao21, co21, eo21⟩ := Kd.R_slice HO_5.out; subst eo21))
                              go_ret3
                              exact ⟨_, by first | rfl | (simp [errW_none, errW_some] <;> rfl) | (simp [*, errW_none, errW_some] <;> rfl), by first | exact Kd.R_nil _ _ _ _ _ | exact Kd.N_nil _ _ _ _ _ | exact Kd.V_nil _ _ _ _ _ | exact Kd.Q_nil _ _ _ _ _ | exact Kd.S_nil _ _ _ _ _, by repeat (first | (with_reducible first | exact HB.out | apply below_alloc | apply pw_below_drewN | apply below_drew1) | exact HB.out)⟩
                            · rw [if_neg c20] at H
                              have c20b0 : ((x5_2.length : Int) == 16) = false := beq_eq_false_iff_ne.mpr c20
                              have c20b1 : ((x5_2.length : Int) != 16) = true := bne_iff_ne.mpr c20
                              by_cases c22 : x5_2.length < 8796093022208
                              · rw [if_pos c22] at H
                                have LMc22 := Aside0.mk c22
                                clear c22
                                obtain ⟨y143, hy143⟩ : ∃ y_ : List ByteArray, y_ = (x5_2 ++ [rdOf ByteArray.empty t135 x7_2]) := ⟨_, rfl⟩
                                replace H : (slabvaultref17_Parse.l0 kj10 y143 t135 (wrap64 (x7_2 + 1))) = some (r1, r2, r3) := by first | (rw [hy143]; with_reducible exact H) | (have H2_ := (Option.bind_some _ _).symm.trans H; rw [hy143]; with_reducible exact H2_) | (have H2_ := (Option.bind_some _ _).symm.trans H; with_reducible exact H2_) | with_reducible exact H | (rw [hy143]; exact H) | exact H
                                have Ny143 := Aside0.mk hy143
                                clear hy143
                                have H' := Aside0.mk H
                                clear H
                                have p140 : 0 ≤ (x7_2 : Int) := of_decide_eq_true (by first | (with_reducible assumption) | assumption)
                                have q140 : x7_2 < (t135.length : Int) := of_decide_eq_true (by first | (with_reducible assumption) | assumption)
                                obtain ⟨ad140, e140, hx140_0⟩ := Kd.at_string (Kd.R_reads' HO_6.out).2.2 x7_2 p140 q140
                                cases e140
                                replace p140 := eq_true p140
                                replace q140 := eq_true q140
                                go_wp2_with (first | ((with_reducible refine gate_callee (f := 11) rfl ?_); refine goesL_ (some 43) rfl rfl Tryd.func11 (by kernel_rfl) rfl #[.string (rdOf ByteArray.empty t135 x7_2)] rfl (by (try simp only [List.map_toArray, List.map_cons, List.map_nil]); first | done | rfl | (simp only [List.length_drop, List.length_take]; rfl)) ?_; (with_reducible refine (slabvaultref09_Name.calls kj10 (rdOf ByteArray.empty t135 x7_2) true _ A18.out).mono ?_); rintro e w' ⟨rfl, ⟨nd, rfl⟩⟩; refine ⟨_, rfl, ?_⟩; obtain ⟨Ao23, co23, eo23⟩ := Kd.R_slice HO_5.out; subst eo23; have p142 : 0 ≤ (x7_2 : Int) := of_decide_eq_true (by first | (with_reducible assumption) | assumption); have q142 : x7_2 < (t135.length : Int) := of_decide_eq_true (by first | (with_reducible assumption) | assumption); obtain ⟨ad142, e142, hx142_0⟩ := Kd.at_string (Kd.R_reads' HO_6.out).2.2 x7_2 p142 q142; obtain rfl : ad140 = ad142 := (by injection e142); replace p142 := eq_true p142; replace q142 := eq_true q142) | ((with_reducible refine gate_builtin (b := .append) (xs := #[.tmp 50, .tmp 55]) rfl ?_); at_builtin; refine Kd.R_append Kd.string (w0 := w) w.heap.size rfl (.tmp 50) (.tmp 55) 24 9 (.string ⟨#[]⟩) 16 rfl Tryd.underlying24 info9 rfl (by decide) (by omega) (.slice Ao23 x5_2.length co23) x5_2 (rdOf ByteArray.empty t135 x7_2) [.string (rdOf ByteArray.empty t135 x7_2)] (fun k_ => some k_ ≠ (.slice (some ad140) t135.length co12 : Value).ownBlock) (fun _ => False) rfl rfl ?aP (fun _ hk => hk.elim) ?aF ?aO ?aB ?aS ?aL ?_; (case aP => exact rfl); (case aB => exact (by repeat (first | (with_reducible first | exact HB.out | apply below_alloc | apply pw_below_drewN | apply below_drew1) | exact HB.out))); (case aF => exact (fun k_ hk => Kd.fresh' (Kd.R_lt (by (with_reducible repeat (first | apply Kd.R_alloc | apply Kd.R_drewN | apply Kd.R_drew)); exact HO_6.out)) k_ hk)); (case aO => exact (by (with_reducible repeat (first | apply Kd.R_alloc | apply Kd.R_drewN | apply Kd.R_drew)); exact HO_5.out)); (case aS => exact (below_size (by repeat (first | (with_reducible first | exact HB.out | apply below_alloc | apply pw_below_drewN | apply below_drew1) | exact HB.out)))); (case aL => have := LMc22.out; omega); intro v144 w24 ho hb hg hat; rw [← Ny143.out] at ho; have n0_ := Aside0.mk (Kd.R_after (ok := (fun _ => True)) (by (with_reducible repeat (first | apply Kd.R_alloc | apply Kd.R_drewN | apply Kd.R_drew)); exact Kd.R_mono HO_6.out (fun _ hk => ⟨trivial, hk⟩)) hg hat); have n1_ := Aside0.mk (hb); have n2_ := Aside0.mk (ho); clear HO_6; clear HB; clear HO_5; have HO_6 := n0_; have HB := n1_; have HO145 := n2_; clear n0_ n1_ n2_; clear ho hb hg hat))
                                go_roundg kj10
                                case measure => have := HJ2.out; have := HK2.out; have := HJ10.out; omega
                                case rel => exact ⟨(y143), (wrap64 (x7_2 + 1)), (by first | rfl | (simp; done) | (simp [*]; done)), H', ⟨by have := HJ2.out; have := HK2.out; have := HJ10.out; omega⟩, ⟨by (with_reducible repeat (first | apply Kd.R_alloc | apply Kd.R_drewN | apply Kd.R_drew)); exact HO145.out⟩, ⟨by (with_reducible repeat (first | apply Kd.R_alloc | apply Kd.R_drewN | apply Kd.R_drew)); exact Kd.R_mono HO_6.out (fun _ hk => hk.2)⟩, ⟨by repeat (first | (with_reducible first | exact HB.out | apply below_alloc | apply pw_below_drewN | apply below_drew1) | exact HB.out)⟩⟩
                              · rw [if_neg c22] at H
                                exact absurd H (by simp)
                          · replace c19 := Bool.eq_false_iff.mpr c19
                            subst c19
                            have H1 : (some (([] : List ByteArray), (x5_2.length : Int), 8)) = some (r1, r2, r3) := by rw [if_neg (show ¬ (false = true) by decide)] at H; exact H
                            clear H
                            have H := H1
                            clear H1
                            simp only [Option.some.injEq, Prod.mk.injEq] at H
                            obtain ⟨rfl, rfl, rfl⟩ := H
                            have p140 : 0 ≤ (x7_2 : Int) := of_decide_eq_true (by first | (with_reducible assumption) | assumption)
                            have q140 : x7_2 < (t135.length : Int) := of_decide_eq_true (by first | (with_reducible assumption) | assumption)
                            obtain ⟨ad140, e140, hx140_0⟩ := Kd.at_string (Kd.R_reads' HO_6.out).2.2 x7_2 p140 q140
                            cases e140
                            replace p140 := eq_true p140
                            replace q140 := eq_true q140
                            go_wp2_with (first | ((with_reducible refine gate_callee (f := 11) rfl ?_); refine goesL_ (some 43) rfl rfl Tryd.func11 (by kernel_rfl) rfl #[.string (rdOf ByteArray.empty t135 x7_2)] rfl (by (try simp only [List.map_toArray, List.map_cons, List.map_nil]); first | done | rfl | (simp only [List.length_drop, List.length_take]; rfl)) ?_; (with_reducible refine (slabvaultref09_Name.calls kj10 (rdOf ByteArray.empty t135 x7_2) false _ A18.out).mono ?_); rintro e w' ⟨rfl, ⟨nd, rfl⟩⟩; refine ⟨_, rfl, ?_⟩; obtain ⟨Ao25, co25, eo25⟩ := Kd.R_slice HO_5.out; subst eo25))
                            go_ret3
                            exact ⟨_, by first | rfl | (simp [errW_none, errW_some] <;> rfl) | (simp [*, errW_none, errW_some] <;> rfl), by first | exact Kd.R_nil _ _ _ _ _ | exact Kd.N_nil _ _ _ _ _ | exact Kd.V_nil _ _ _ _ _ | exact Kd.Q_nil _ _ _ _ _ | exact Kd.S_nil _ _ _ _ _, by repeat (first | (with_reducible first | exact HB.out | apply below_alloc | apply pw_below_drewN | apply below_drew1) | exact HB.out)⟩
                        · rw [if_neg c17] at H
                          exact absurd H (by simp)
                      · rw [if_neg c16] at H
                        exact absurd H (by simp)
              · rw [if_neg c10] at H
                have c10b0 : decide (x7_2 < (t135.length : Int)) = false := decide_eq_false c10
                clear c10
                simp only [Option.some.injEq, Prod.mk.injEq] at H
                obtain ⟨rfl, rfl, rfl⟩ := H
                obtain ⟨Ao26, co26, eo26⟩ := Kd.R_slice HO_6.out
                subst eo26
                go_wp2
                go_ret3
                exact ⟨_, by first | rfl | (simp [errW_none, errW_some] <;> rfl) | (simp [*, errW_none, errW_some] <;> rfl), by (with_reducible repeat (first | apply Kd.R_alloc | apply Kd.R_drewN | apply Kd.R_drew)); exact Kd.R_mono HO_5.out (fun _ hk => trivial), by repeat (first | (with_reducible first | exact HB.out | apply below_alloc | apply pw_below_drewN | apply below_drew1) | exact HB.out)⟩
end Go.Proofs.YtbmginkdlcpnpaaDoor.Wk
end
section
namespace Go.Proofs.YtbmginkdlcpnpaaDoor.Wk
open Go.RowKit Go.Proofs.YtbmginkdlcpnpaaDoorW.PrintWords Go.Proofs.YtbmginkdlcpnpaaDoorW.PrintLast Go.Proofs.YtbmginkdlcpnpaaDoorW.PrintMore
attribute [local go_sem] max2_int min2_int max_two min_two max_three min_three max_four min_four
set_option linter.unusedVariables false
set_option linter.unusedSimpArgs false
def slabvaultref17_Join.l0 : Nat → List ByteArray → ByteArray → Int → Option (ByteArray × Int × Int)
  | 0, _, _, _ => none
  | k + 1, x0, x5, x6 => if x6 < (x0.length : Int) then (if 0 ≤ x6 then ((slabvaultref09_Name.f k (rdOf ByteArray.empty x0 x6)).bind fun t159 => (if t159 = true then (if x5.size + 1 ≤ 9223372036854775807 then (if (x5 ++ (⟨#[47]⟩ : ByteArray)).size + (rdOf ByteArray.empty x0 x6).size ≤ 9223372036854775807 then (slabvaultref17_Join.l0 k x0 ((x5 ++ (⟨#[47]⟩ : ByteArray)) ++ (rdOf ByteArray.empty x0 x6)) (wrap64 (x6 + 1))) else (none)) else (none)) else (some ((⟨#[]⟩ : ByteArray), x6, 8)))) else (none)) else (if (x5.size : Int) > 1024 then (some ((⟨#[]⟩ : ByteArray), 0, 3)) else (if x5.toList = ([] : List UInt8) then (some ((⟨#[47]⟩ : ByteArray), 0, 0)) else (some (x5, 0, 0))))
def slabvaultref17_Join.f (k : Nat) (l0 : List ByteArray) : Option (ByteArray × Int × Int) := if (l0.length : Int) > 16 then (some ((⟨#[]⟩ : ByteArray), 0, 3)) else (slabvaultref17_Join.l0 k l0 (⟨#[]⟩ : ByteArray) 0)
end Go.Proofs.YtbmginkdlcpnpaaDoor.Wk
end
section
namespace Go.Proofs.YtbmginkdlcpnpaaDoor.Wk
open Go.RowKit Go.Proofs.YtbmginkdlcpnpaaDoorW.PrintWords Go.Proofs.YtbmginkdlcpnpaaDoorW.PrintLast Go.Proofs.YtbmginkdlcpnpaaDoorW.PrintMore
attribute [local go_sem] max2_int min2_int max_two min_two max_three min_three max_four min_four
set_option linter.unusedVariables false
set_option linter.unusedSimpArgs false
def slabvaultref17_Split.f (k : Nat) (a0 : ByteArray) : Option (ByteArray × ByteArray × Int × Int) := (slabvaultref17_Parse.f k a0).bind fun bt230 => (if bt230.2.2 = 0 then (if (bt230.1.length : Int) = 0 then (some ((⟨#[]⟩ : ByteArray), (⟨#[]⟩ : ByteArray), 0, 11)) else (if 0 ≤ (wrap64 ((bt230.1.length : Int) - 1)) then (if (wrap64 ((bt230.1.length : Int) - 1)) ≤ (bt230.1.length : Int) then ((slabvaultref17_Join.f k (bt230.1.take ((wrap64 ((bt230.1.length : Int) - 1)) : Int).toNat)).bind fun bt239 => (if (wrap64 ((bt230.1.length : Int) - 1)) < (bt230.1.length : Int) then (some (bt239.1, rdOf ByteArray.empty bt230.1 (wrap64 ((bt230.1.length : Int) - 1)), 0, 0)) else (none))) else (none)) else (none))) else (some ((⟨#[]⟩ : ByteArray), (⟨#[]⟩ : ByteArray), bt230.2.1, bt230.2.2)))
end Go.Proofs.YtbmginkdlcpnpaaDoor.Wk
end
section
namespace Go.Proofs.YtbmginkdlcpnpaaDoor.Wk
open Go.RowKit Go.Lib Go.Proofs.YtbmginkdlcpnpaaDoorW.PrintWords Go.Proofs.YtbmginkdlcpnpaaDoorW.PrintLast Go.Proofs.YtbmginkdlcpnpaaDoorW.PrintMore
set_option linter.unusedVariables false
theorem wrap_nat (i : Nat) (h : i < 9223372036854775806) : wrap64 ((i : Int) + 1) = ((i + 1 : Nat) : Int) := by
  unfold wrap64
  omega
theorem bt_nat (s : ByteArray) (i : Nat) (b : UInt8) (h : s.data.toList[i]? = some b) : bt s (i : Int) = (b.toNat : Int) := by
  have hi : i < s.size := by rw [Lib.size_eq]; exact (List.getElem?_eq_some_iff.1 h).1
  unfold bt
  rw [show ((i : Int)).toNat = i from rfl, dif_pos hi]
  have := Lib.data_getElem? s i hi
  rw [h] at this
  cases this
  rfl
theorem byte_eq (b c : UInt8) : ((b.toNat : Int) = (c.toNat : Int)) ↔ b = c := by
  constructor
  · intro h
    exact UInt8.toNat_inj.1 (by omega)
  · rintro rfl; rfl
theorem byte_zero (b : UInt8) : ((b.toNat : Int) = 0) ↔ b = 0 := byte_eq b 0
theorem byte_slash (b : UInt8) : ((b.toNat : Int) = 47) ↔ b = 47 := byte_eq b 47
theorem any_cons (b : UInt8) (l : List UInt8) : Lib.containsAny (b :: l) [47, 0] = (decide (b = 47 ∨ b = 0) || Lib.containsAny l [47, 0]) := by
  have hg := Lib.indexAny_ge [47, 0] l
  by_cases h : b = 47 ∨ b = 0
  · have hc : ([47, 0] : List UInt8).contains b = true := by rcases h with rfl | rfl <;> rfl
    simp [Lib.containsAny, Lib.indexAny, h]
  · have hc : ([47, 0] : List UInt8).contains b = false := by
      simp only [List.contains_cons, List.contains_nil, Bool.or_false, Bool.or_eq_false_iff, beq_eq_false_iff_ne]
      exact ⟨fun e => h (.inl e), fun e => h (.inr e)⟩
    have hd : decide (b = 47 ∨ b = 0) = false := decide_eq_false h
    rw [hd, Bool.false_or]
    unfold Lib.containsAny
    congr 1
    rw [Lib.indexAny, if_neg (by rw [hc]; simp)]
    split
    · rename_i h1
      have : Lib.indexAny l [47, 0] = -1 := by simpa using h1
      rw [this]
    · rename_i h1
      have : Lib.indexAny l [47, 0] ≠ -1 := by simpa using h1
      apply propext
      omega
theorem any_nil : Lib.containsAny [] [47, 0] = false := rfl
theorem nameLoop (s : ByteArray) (hs : s.size < 1000000) : ∀ (d i k : Nat), s.size - i = d → i ≤ s.size → d < k →
    slabvaultref09_Name.l0 k s (i : Int) = some (!(Lib.containsAny (s.data.toList.drop i) [47, 0])) := by
  have hz := Lib.size_eq s
  intro d
  induction d with
  | zero =>
    intro i k hd hi hk
    obtain ⟨k, rfl⟩ : ∃ m, k = m + 1 := ⟨k - 1, by omega⟩
    have : i = s.size := by omega
    subst this
    simp only [slabvaultref09_Name.l0]
    rw [if_neg (by omega), hz, List.drop_of_length_le (Nat.le_refl _), any_nil]
    rfl
  | succ d ih =>
    intro i k hd hi hk
    obtain ⟨k, rfl⟩ : ∃ m, k = m + 1 := ⟨k - 1, by omega⟩
    have hlt : i < s.data.toList.length := by omega
    have hb := bt_nat s i (s.data.toList[i]) (List.getElem?_eq_getElem hlt)
    rw [List.drop_eq_getElem_cons hlt, any_cons]
    generalize s.data.toList[i] = b at hb
    simp only [slabvaultref09_Name.l0]
    rw [if_pos (by omega), if_pos (by omega), hb]
    by_cases h0 : b = 0
    · rw [if_pos ((byte_zero b).2 h0)]
      simp [h0]
    · rw [if_neg (fun e => h0 ((byte_zero b).1 e))]
      by_cases h47 : b = 47
      · rw [if_pos ((byte_slash b).2 h47)]
        simp [h47]
      · rw [if_neg (fun e => h47 ((byte_slash b).1 e)), wrap_nat i (by omega), ih (i + 1) k (by omega) (by omega) (by omega)]
        simp [h0, h47]
theorem ref_name (s : ByteArray) (k : Nat) (hk : 100 ≤ k) : slabvaultref09_Name.f k s = some (goodName s) := by
  have hz := Lib.size_eq s
  have hl := ByteArray.toList_eq s
  obtain ⟨k, rfl⟩ : ∃ m, k = m + 1 := ⟨k - 1, by omega⟩
  unfold slabvaultref09_Name.f goodName
  by_cases h1 : (s.size : Int) < 1
  · have h00 : s.data.toList.length = 0 := by omega
    have h0 : s.toList = [] := by rw [hl]; exact List.length_eq_zero_iff.1 h00
    rw [if_pos h1, h0]
    simp [slabvaultref09_Name.j0]
  · have he : s.toList.isEmpty = false := by
      rw [hl]
      cases h : s.data.toList with
      | nil => rw [h] at hz; have h00 : s.size = 0 := hz; omega
      | cons a t => rfl
    rw [if_neg h1, he]
    by_cases h2 : (s.size : Int) > 64
    · rw [if_pos h2]
      have : ¬ s.size ≤ 64 := by omega
      simp [slabvaultref09_Name.j0, this]
    · have h64 : s.size ≤ 64 := by omega
      rw [if_neg h2]
      by_cases h3 : s.toList = [46]
      · rw [if_pos h3, h3]
        simp [slabvaultref09_Name.j0]
      · have h3b : (s.toList == [46]) = false := by simpa using h3
        rw [if_neg h3, h3b]
        simp only [slabvaultref09_Name.j0]
        by_cases h4 : s.toList = [46, 46]
        · rw [h4]; simp
        · have h4b : (s.toList == [46, 46]) = false := by simpa using h4
          rw [h4b, if_neg (by simp)]
          have := nameLoop s (by omega) s.size 0 k (by omega) (by omega) (by omega)
          rw [show ((0 : Nat) : Int) = 0 from rfl] at this
          rw [this]
          simp [h64]
theorem textsLoop (l : List ByteArray) (hl : l.length < 9223372036854775806) : ∀ (d i k : Nat), l.length - i = d → i ≤ l.length → d < k → slabvaultlaw17_texts.l0 k l l (i : Int) = some true := by
  intro d
  induction d with
  | zero =>
    intro i k hd hi hk
    obtain ⟨k, rfl⟩ : ∃ m, k = m + 1 := ⟨k - 1, by omega⟩
    simp only [slabvaultlaw17_texts.l0]
    rw [if_neg (by omega)]
  | succ d ih =>
    intro i k hd hi hk
    obtain ⟨k, rfl⟩ : ∃ m, k = m + 1 := ⟨k - 1, by omega⟩
    simp only [slabvaultlaw17_texts.l0]
    rw [if_pos (by omega), if_pos (by omega), if_pos (by omega), if_true, wrap_nat i (by omega)]
    exact ih (i + 1) k (by omega) (by omega) (by omega)
theorem texts_refl (l : List ByteArray) (hl : l.length < 9223372036854775806) (k : Nat) (hk : l.length < k) : slabvaultlaw17_texts.f k l l = some true := by
  unfold slabvaultlaw17_texts.f
  rw [if_pos rfl]
  exact textsLoop l hl l.length 0 k (by omega) (by omega) hk
theorem cutL_cons_slash (l : List UInt8) : cutL (47 :: l) = [] :: cutL l := by simp [cutL]
theorem cutL_cons (b : UInt8) (l : List UInt8) (h : b ≠ 47) (p : List UInt8) (ps : List (List UInt8)) (hp : cutL l = p :: ps) : cutL (b :: l) = (b :: p) :: ps := by
  rw [show cutL (b :: l) = (if b = 47 then [] :: cutL l else match cutL l with | [] => [[b]] | p :: ps => (b :: p) :: ps) from rfl, if_neg h, hp]
theorem slice_mkB (s : ByteArray) (a b : Nat) : s.extract a b = mkB ((s.data.toList.drop a).take (b - a)) := by
  apply mkB_eq
  rw [data_mkB, Lib.extract_data]
theorem partsLoop (s : ByteArray) (hs : s.size < 1000000) : ∀ (d i k a : Nat) (acc : List ByteArray) (p : List UInt8) (ps : List (List UInt8)), s.size - i = d → i ≤ s.size → a ≤ i → d + 1 < k → acc.length ≤ i →
    cutL (s.data.toList.drop i) = p :: ps →
    slabvaultref17_parts.l0 k s acc (a : Int) (i : Int) = some (acc ++ mkB ((s.data.toList.drop a).take (i - a) ++ p) :: ps.map mkB) := by
  have hz := Lib.size_eq s
  intro d
  induction d with
  | zero =>
    intro i k a acc p ps hd hi ha hk hacc hc
    obtain ⟨k, rfl⟩ : ∃ m, k = m + 2 := ⟨k - 2, by omega⟩
    have : i = s.size := by omega
    subst this
    rw [List.drop_of_length_le (by omega)] at hc
    obtain ⟨rfl, rfl⟩ : [] = p ∧ [] = ps := by simpa [cutL] using hc
    simp only [slabvaultref17_parts.l0]
    rw [if_pos (by omega), if_true, if_pos (by omega), if_pos (by omega), if_pos (by omega), wrap_nat s.size (by omega), if_neg (by omega)]
    rw [show ((a : Int)).toNat = a from rfl, show ((s.size : Int)).toNat = s.size from rfl, slice_mkB]
    simp
  | succ d ih =>
    intro i k a acc p ps hd hi ha hk hacc hc
    obtain ⟨k, rfl⟩ : ∃ m, k = m + 1 := ⟨k - 1, by omega⟩
    have hlt : i < s.data.toList.length := by omega
    have hb := bt_nat s i (s.data.toList[i]) (List.getElem?_eq_getElem hlt)
    rw [List.drop_eq_getElem_cons hlt] at hc
    have htk : (s.data.toList.drop a).take (i + 1 - a) = (s.data.toList.drop a).take (i - a) ++ [s.data.toList[i]] := by
      have h1 : i + 1 - a = (i - a) + 1 := by omega
      have h2 : i - a < (s.data.toList.drop a).length := by rw [List.length_drop]; omega
      rw [h1, List.take_succ_eq_append_getElem h2]
      congr 2
      rw [List.getElem_drop]
      congr 1
      omega
    generalize s.data.toList[i] = b at hb hc htk
    obtain ⟨q, qs, hq⟩ : ∃ q qs, cutL (s.data.toList.drop (i + 1)) = q :: qs := by
      cases h : cutL (s.data.toList.drop (i + 1)) with
      | nil => exact absurd h (cutL_ne _)
      | cons q qs => exact ⟨q, qs, rfl⟩
    simp only [slabvaultref17_parts.l0]
    rw [if_pos (by omega), if_neg (by omega), if_pos (by omega), if_pos (by omega), hb]
    by_cases h47 : b = 47
    · subst h47
      rw [cutL_cons_slash, hq] at hc
      obtain ⟨rfl, rfl⟩ : [] = p ∧ q :: qs = ps := by simpa using hc
      rw [if_pos ((byte_slash 47).2 rfl), if_pos (by omega), if_pos (by omega), if_pos (by omega), wrap_nat i (by omega)]
      have := ih (i + 1) k (i + 1) (acc ++ [s.extract ((a : Int)).toNat ((i : Int)).toNat]) q qs (by omega) (by omega) (Nat.le_refl _) (by omega) (by simp; omega) hq
      rw [this, show ((a : Int)).toNat = a from rfl, show ((i : Int)).toNat = i from rfl, slice_mkB]
      simp
    · rw [cutL_cons b _ h47 q qs hq] at hc
      obtain ⟨rfl, rfl⟩ : b :: q = p ∧ qs = ps := by simpa using hc
      rw [if_neg (fun e => h47 ((byte_slash b).1 e)), wrap_nat i (by omega)]
      have := ih (i + 1) k a acc q qs (by omega) (by omega) (by omega) (by omega) (by omega) hq
      rw [this, htk]
      simp
theorem ref_parts (s : ByteArray) (h1 : 1 ≤ s.size) (hs : s.size < 1000000) (k : Nat) (hk : s.size < k) : slabvaultref17_parts.f k s = some (partsB (s.extract 1 s.size)) := by
  have hz := Lib.size_eq s
  obtain ⟨q, qs, hq⟩ : ∃ q qs, cutL (s.data.toList.drop 1) = q :: qs := by
    cases h : cutL (s.data.toList.drop 1) with
    | nil => exact absurd h (cutL_ne _)
    | cons q qs => exact ⟨q, qs, rfl⟩
  unfold slabvaultref17_parts.f
  have := partsLoop s hs (s.size - 1) 1 k 1 [] q qs rfl h1 (Nat.le_refl _) (by omega) (by simp) hq
  rw [show ((1 : Nat) : Int) = 1 from rfl] at this
  rw [this]
  unfold partsB
  rw [Lib.extract_data, show (s.data.toList.drop 1).take (s.size - 1) = s.data.toList.drop 1 from List.take_of_length_le (by rw [List.length_drop]; omega), hq]
  simp
def three : Except (Nat × Int) (List ByteArray) → List ByteArray × Int × Int
  | .ok l => (l, 0, 0)
  | .error (a, y) => ([], a, y)
theorem parseP_three (s : ByteArray) : parseP s = three (parseF s) := by
  unfold parseP three
  cases parseF s with
  | ok l => rfl
  | error p => rfl
theorem rdOf_nat (l : List ByteArray) (i : Nat) (h : i < l.length) : rdOf ByteArray.empty l (i : Int) = l[i] := by
  simp [rdOf, List.getD_eq_getElem?_getD, List.getElem?_eq_getElem h]
theorem parseLoop (x6 : List ByteArray) (hx : x6.length < 1000000) : ∀ (d i k : Nat) (acc : List ByteArray), x6.length - i = d → i ≤ x6.length → 2 * d + 110 < k → acc.length ≤ 16 →
    slabvaultref17_Parse.l0 k acc x6 (i : Int) = some (three (parseL acc (x6.drop i))) := by
  intro d
  induction d with
  | zero =>
    intro i k acc hd hi hk hacc
    obtain ⟨k, rfl⟩ : ∃ m, k = m + 1 := ⟨k - 1, by omega⟩
    simp only [slabvaultref17_Parse.l0]
    rw [if_neg (by omega), List.drop_of_length_le (by omega)]
    rfl
  | succ d ih =>
    intro i k acc hd hi hk hacc
    obtain ⟨k, rfl⟩ : ∃ m, k = m + 2 := ⟨k - 2, by omega⟩
    have hlt : i < x6.length := by omega
    have hrd := rdOf_nat x6 i hlt
    rw [List.drop_eq_getElem_cons hlt]
    generalize x6[i] = p at hrd
    have hpl : parseL acc (p :: x6.drop (i + 1)) = match parseStep acc p with | .ok a => parseL a (x6.drop (i + 1)) | .error e => .error e := rfl
    rw [hpl]
    have ih2 := fun acc' h' => ih (i + 1) k acc' (by omega) (by omega) (by omega) h'
    simp only [slabvaultref17_Parse.l0, slabvaultref17_Parse.j2]
    rw [if_pos (by omega), if_pos (by omega), hrd]
    unfold parseStep
    by_cases k1 : p.toList = []
    · rw [if_pos k1, k1]
      simp only [List.isEmpty_nil, if_true]
      rw [wrap_nat i (by omega)]
      exact ih2 acc hacc
    · have k1b : p.toList.isEmpty = false := by simpa using k1
      rw [if_neg k1, k1b]
      cases k2 : (p.toList == [46])
      · simp only [if_false, Bool.false_eq_true]
        rw [if_pos (by omega), if_pos (by omega), ref_name p k (by omega)]
        simp only [Option.bind_some]
        cases k3 : goodName p
        · simp [three]
        · simp only [if_true, if_false, Bool.true_eq_false]
          by_cases k4 : acc.length = 16
          · rw [if_pos (by omega), if_pos k4, k4]
            rfl
          · rw [if_neg (by omega), if_neg k4, if_pos (by omega), wrap_nat i (by omega)]
            exact ih2 (acc ++ [p]) (by simp; omega)
      · simp only [if_true, if_false, Bool.false_eq_true]
        rw [wrap_nat i (by omega)]
        exact ih2 acc hacc
theorem cutL_length : ∀ l : List UInt8, (cutL l).length ≤ l.length + 1
  | [] => by simp [cutL]
  | b :: l => by
    have ih := cutL_length l
    unfold cutL
    split
    · simp; omega
    · split
      · simp
      · rename_i h
        rw [h] at ih
        simp at ih ⊢
        omega
theorem ref_parse (s : ByteArray) (k : Nat) (hk : 5000 ≤ k) : slabvaultref17_Parse.f k s = some (parseP s) := by
  have hz := Lib.size_eq s
  obtain ⟨k, rfl⟩ : ∃ m, k = m + 1 := ⟨k - 1, by omega⟩
  rw [parseP_three]
  unfold slabvaultref17_Parse.f parseF
  by_cases h1 : 1024 < s.size
  · rw [if_pos (by omega), if_pos h1]
    rfl
  · rw [if_neg (by omega), if_neg h1]
    cases hd : s.data.toList with
    | nil =>
      rw [hd] at hz
      have h0 : s.size = 0 := hz
      rw [if_pos (by omega)]
      simp [slabvaultref17_Parse.j0, three, Lib.hasPrefix]
    | cons b t =>
      rw [hd] at hz
      have h0 : s.size = t.length + 1 := hz
      have hb : bt s 0 = (b.toNat : Int) := bt_nat s 0 b (by rw [hd]; rfl)
      rw [if_neg (by omega), if_pos (by omega), hb]
      by_cases h47 : b = 47
      · subst h47
        have hp : Lib.hasPrefix (47 :: t) [47] = true := by simp [Lib.hasPrefix]
        rw [hp, if_neg (by simp)]
        have hne : (((47 : UInt8).toNat : Int) != 47) = false := rfl
        rw [hne]
        simp only [slabvaultref17_Parse.j0]
        rw [if_neg (by simp), ref_parts s (by omega) (by omega) k (by omega)]
        simp only [Option.bind_some]
        have hle : (partsB (s.extract 1 s.size)).length ≤ 1026 := by
          unfold partsB
          rw [List.length_map]
          have := cutL_length (s.extract 1 s.size).data.toList
          rw [Lib.extract_data] at this
          rw [Lib.extract_data]
          simp only [List.length_take, List.length_drop, hd, List.length_cons] at this
          rw [hd]
          omega
        have := parseLoop (partsB (s.extract 1 s.size)) (by omega) _ 0 k [] rfl (by omega) (by omega) (by simp)
        rw [show ((0 : Nat) : Int) = 0 from rfl] at this
        rw [this, List.drop_zero]
      · have hp : Lib.hasPrefix (b :: t) [47] = false := by
          simp only [Lib.hasPrefix, List.isPrefixOf, Bool.and_true, beq_eq_false_iff_ne, ne_eq]
          rintro rfl
          exact h47 rfl
        rw [hp, if_pos rfl]
        have hne : ((b.toNat : Int) != 47) = true := by
          rw [bne_iff_ne]
          exact fun e => h47 ((byte_slash b).1 e)
        rw [hne]
        simp [slabvaultref17_Parse.j0, three]
def slashes (l : List ByteArray) : List UInt8 := l.flatMap (fun x => 47 :: x.data.toList)
def threeS : Except (Nat × Int) ByteArray → ByteArray × Int × Int
  | .ok s => (s, 0, 0)
  | .error (a, y) => (⟨#[]⟩, a, y)
theorem parseStep_len {acc l : List ByteArray} {p : ByteArray} (h : parseStep acc p = .ok l) (ha : acc.length ≤ 16) : l.length ≤ 16 := by
  unfold parseStep at h
  split at h
  · cases h; exact ha
  · split at h
    · cases h; exact ha
    · split at h
      · cases h
      · split at h
        · cases h
        · cases h; simp; omega
theorem parseL_len : ∀ (ps acc l : List ByteArray), parseL acc ps = .ok l → acc.length ≤ 16 → l.length ≤ 16
  | [], acc, l, h, ha => by cases h; exact ha
  | p :: ps, acc, l, h, ha => by
    unfold parseL at h
    cases hp : parseStep acc p with
    | ok a => rw [hp] at h; exact parseL_len ps a l h (parseStep_len hp ha)
    | error e => rw [hp] at h; cases h
theorem parseF_len {s : ByteArray} {l : List ByteArray} (h : parseF s = .ok l) : l.length ≤ 16 := by
  unfold parseF at h
  split at h
  · cases h
  · split at h
    · cases h
    · exact parseL_len _ _ _ h (by simp)
end Go.Proofs.YtbmginkdlcpnpaaDoor.Wk
end
section
namespace Go.Proofs.YtbmginkdlcpnpaaDoor.Wk
open Go.RowKit Go.Lib Go.Proofs.YtbmginkdlcpnpaaDoorW.PrintWords Go.Proofs.YtbmginkdlcpnpaaDoorW.PrintLast Go.Proofs.YtbmginkdlcpnpaaDoorW.PrintMore
set_option linter.unusedVariables false
theorem lives10 : slabvaultlaw17_lives.f 10 = some true := by decide +kernel
theorem lives_ok (k : Nat) (hk : 10 ≤ k) : slabvaultlaw17_lives.f k = some true := at_rounds slabvaultlaw17_lives.mono hk lives10
end Go.Proofs.YtbmginkdlcpnpaaDoor.Wk
end
section
namespace Go.Proofs.YtbmginkdlcpnpaaDoor.Wk
open Go.RowKit Go.Proofs.YtbmginkdlcpnpaaDoorW.PrintWords Go.Proofs.YtbmginkdlcpnpaaDoorW.PrintLast Go.Proofs.YtbmginkdlcpnpaaDoorW.PrintMore
attribute [local go_sem] max2_int min2_int max_two min_two max_three min_three max_four min_four
set_option linter.unusedVariables false
set_option linter.unusedSimpArgs false
def path_Name.f (a0 : ByteArray) : Option Bool := some (goodName a0)
end Go.Proofs.YtbmginkdlcpnpaaDoor.Wk
end
section
namespace Go.Proofs.YtbmginkdlcpnpaaDoor.Wk
open Go.RowKit Go.Proofs.YtbmginkdlcpnpaaDoorW.PrintWords Go.Proofs.YtbmginkdlcpnpaaDoorW.PrintLast Go.Proofs.YtbmginkdlcpnpaaDoorW.PrintMore
attribute [local go_sem] max2_int min2_int max_two min_two max_three min_three max_four min_four
set_option linter.unusedVariables false
set_option linter.unusedSimpArgs false
def slabvaultlaw17_PathNames.f (k : Nat) (a0 : ByteArray) : Option (Bool) := (path_Name.f a0).bind fun t126 => ((slabvaultref09_Name.f k a0).bind fun t127 => (if (t126 == t127) = true then ((slabvaultlaw17_lives.f k).bind fun t128 => (some t128)) else (none)))
def slabvaultlaw17_PathNames.Pure : Prop := ∀ (a0 : ByteArray), a0.size ≤ 140737488351232 → ∃ k, slabvaultlaw17_PathNames.f k a0 = some true
end Go.Proofs.YtbmginkdlcpnpaaDoor.Wk
end
section
namespace Go.Proofs.YtbmginkdlcpnpaaDoor.Wk
open Go.RowKit Go.Proofs.YtbmginkdlcpnpaaDoorW.PrintWords Go.Proofs.YtbmginkdlcpnpaaDoorW.PrintLast Go.Proofs.YtbmginkdlcpnpaaDoorW.PrintMore
attribute [local go_sem] max2_int min2_int max_two min_two max_three min_three max_four min_four
set_option linter.unusedVariables false
set_option linter.unusedSimpArgs false
def slabvaultlaw17_PathParses.f (k : Nat) (a0 : ByteArray) : Option (Bool) := (path_Parse.f a0).bind fun bt146 => ((slabvaultref17_Parse.f k a0).bind fun bt151 => ((slabvaultlaw17_texts.f k bt146.1 bt151.1).bind fun t156 => (if t156 = true then (if bt146.2.1 = bt151.2.1 then (if bt146.2.2 = bt151.2.2 then ((slabvaultlaw17_lives.f k).bind fun t157 => (some t157)) else (none)) else (none)) else (none))))
set_option maxHeartbeats 8000000 in
set_option maxRecDepth 100000 in
theorem slabvaultlaw17_PathParses.calls (k : Nat) (a0 : ByteArray) (r : Bool) (w : World) (hlay_ : Lay w) (h : slabvaultlaw17_PathParses.f k a0 = some r) :
    Calls Tryd.prog 4 #[.string a0] w fun e w' => e = .returned (.bool r) ∧ Below w.heap.size w w' := by
  have HLAY_ := Aside0.mk hlay_
  clear hlay_
  have HB := Aside0.mk (Below.refl w.heap.size w)
  have H : ((path_Parse.f a0).bind fun bt146 => ((slabvaultref17_Parse.f k a0).bind fun bt151 => ((slabvaultlaw17_texts.f k bt146.1 bt151.1).bind fun t156 => (if t156 = true then (if bt146.2.1 = bt151.2.1 then (if bt146.2.2 = bt151.2.2 then ((slabvaultlaw17_lives.f k).bind fun t157 => (some t157)) else (none)) else (none)) else (none))))) = some r := h
  clear h
  replace H := Option.bind_eq_some_iff.mp H
  obtain ⟨⟨t146, t147, t148⟩, A20, H⟩ := H
  replace H : ((slabvaultref17_Parse.f k a0).bind fun bt151 => ((slabvaultlaw17_texts.f k t146 bt151.1).bind fun t156 => (if t156 = true then (if t147 = bt151.2.1 then (if t148 = bt151.2.2 then ((slabvaultlaw17_lives.f k).bind fun t157 => (some t157)) else (none)) else (none)) else (none)))) = some r := H
  have A2 := Aside0.mk A20
  clear A20
  replace H := Option.bind_eq_some_iff.mp H
  obtain ⟨⟨t151, t152, t153⟩, A30, H⟩ := H
  replace H : ((slabvaultlaw17_texts.f k t146 t151).bind fun t156 => (if t156 = true then (if t147 = t152 then (if t148 = t153 then ((slabvaultlaw17_lives.f k).bind fun t157 => (some t157)) else (none)) else (none)) else (none))) = some r := H
  have A3 := Aside0.mk A30
  clear A30
  replace H := Option.bind_eq_some_iff.mp H
  obtain ⟨t156, A40, H⟩ := H
  replace H : (if t156 = true then (if t147 = t152 then (if t148 = t153 then ((slabvaultlaw17_lives.f k).bind fun t157 => (some t157)) else (none)) else (none)) else (none)) = some r := H
  have A4 := Aside0.mk A40
  clear A40
  by_cases c5 : t156 = true
  · subst c5
    have H1 : (if t147 = t152 then (if t148 = t153 then ((slabvaultlaw17_lives.f k).bind fun t157 => (some t157)) else (none)) else (none)) = some r := by rw [if_pos rfl] at H; exact H
    clear H
    have H := H1
    clear H1
    by_cases c6 : t147 = t152
    · rw [if_pos c6] at H
      have c6b0 : (t147 == t152) = true := beq_iff_eq.mpr c6
      have c6b1 : (t147 != t152) = false := bne_eq_false_iff_eq.mpr c6
      clear c6
      by_cases c7 : t148 = t153
      · rw [if_pos c7] at H
        have c7b0 : (t148 == t153) = true := beq_iff_eq.mpr c7
        have c7b1 : (t148 != t153) = false := bne_eq_false_iff_eq.mpr c7
        clear c7
        replace H := Option.bind_eq_some_iff.mp H
        obtain ⟨t157, A80, H⟩ := H
        replace H : (some t157) = some r := H
        have A8 := Aside0.mk A80
        clear A80
        obtain rfl := Option.some.inj H
        go_enter Tryd.func4, Tryd.ntmps4
        go_wp2_with (first | ((with_reducible refine gate_callee (f := 13) rfl ?_); refine goesL_ (some 11) rfl rfl Tryd.func13 (by kernel_rfl) rfl #[.string a0] rfl (by (try simp only [List.map_toArray, List.map_cons, List.map_nil]); first | done | rfl | (simp only [List.length_drop, List.length_take]; rfl)) ?_; (with_reducible refine (path_Parse.calls a0 t146 t147 t148 _ (lay_below HLAY_.out (by repeat (first | (with_reducible first | exact HB.out | apply below_alloc | apply pw_below_drewN | apply below_drew1) | exact HB.out))) A2.out).mono ?_); rintro e w9 ⟨v149, rfl, ho0, hb⟩; refine ⟨_, rfl, ?_⟩; have n0_ := Aside0.mk (Kd.R_lower ho0 (below_size (by repeat (first | (with_reducible first | exact HB.out | apply below_alloc | apply pw_below_drewN | apply below_drew1) | exact HB.out)))); have n1_ := Aside0.mk (below_step (by repeat (first | (with_reducible first | exact HB.out | apply below_alloc | apply pw_below_drewN | apply below_drew1) | exact HB.out)) hb); clear HB; have HO150 := n0_; have HB := n1_; clear n0_ n1_; (try clear hb); (try clear hb2); (try clear hk); (try clear hi); (try clear ho0)) | ((with_reducible refine gate_callee (f := 14) rfl ?_); refine goesL_ (some 17) rfl rfl Tryd.func14 (by kernel_rfl) rfl #[.string a0] rfl (by (try simp only [List.map_toArray, List.map_cons, List.map_nil]); first | done | rfl | (simp only [List.length_drop, List.length_take]; rfl)) ?_; (with_reducible refine (slabvaultref17_Parse.calls k a0 t151 t152 t153 _ A3.out).mono ?_); rintro e w10 ⟨v154, rfl, ho0, hb⟩; refine ⟨_, rfl, ?_⟩; have n0_ := Aside0.mk (Kd.R_elder' (by (with_reducible repeat (first | apply Kd.R_alloc | apply Kd.R_drewN | apply Kd.R_drew)); exact HO150.out) (Kd.R_base ho0) hb); have n1_ := Aside0.mk (Kd.R_lower (Kd.R_new' ho0 (Kd.R_lt (by (with_reducible repeat (first | apply Kd.R_alloc | apply Kd.R_drewN | apply Kd.R_drew)); exact HO150.out))) (below_size (by repeat (first | (with_reducible first | exact HB.out | apply below_alloc | apply pw_below_drewN | apply below_drew1) | exact HB.out)))); have n2_ := Aside0.mk (below_step (by repeat (first | (with_reducible first | exact HB.out | apply below_alloc | apply pw_below_drewN | apply below_drew1) | exact HB.out)) hb); clear HO150; clear HB; have HO150 := n0_; have HO155 := n1_; have HB := n2_; clear n0_ n1_ n2_; (try clear hb); (try clear hb2); (try clear hk); (try clear hi); (try clear ho0); obtain ⟨Ao11, co11, eo11⟩ := Kd.R_slice HO150.out; subst eo11; obtain ⟨Ao12, co12, eo12⟩ := Kd.R_slice HO155.out; subst eo12) | ((with_reducible refine gate_callee (f := 15) rfl ?_); refine goesL_ (some 23) rfl rfl Tryd.func15 (by kernel_rfl) rfl #[.slice Ao11 t146.length co11, .slice Ao12 t151.length co12] rfl (by (try simp only [List.map_toArray, List.map_cons, List.map_nil]); first | done | rfl | (simp only [List.length_drop, List.length_take]; rfl)) ?_; (with_reducible refine (slabvaultlaw17_texts.calls k _ _ t146 _ _ t151 true _ ?side1 ?side2 ?side3 ?side4 A4.out).mono ?_); (case side1 => repeat (first | exact (Kd.R_reads' HO150.out).2.2 | (with_reducible refine Kd.C_alloc ?_ _) | (with_reducible refine Kd.C_drewN ?_ _) | (with_reducible refine Kd.C_drew ?_))); (case side2 => exact (Kd.R_reads' HO150.out).2.1); (case side3 => repeat (first | exact (Kd.R_reads' HO155.out).2.2 | (with_reducible refine Kd.C_alloc ?_ _) | (with_reducible refine Kd.C_drewN ?_ _) | (with_reducible refine Kd.C_drew ?_))); (case side4 => exact (Kd.R_reads' HO155.out).2.1); rintro e w' ⟨rfl, ⟨nd, rfl⟩⟩; refine ⟨_, rfl, ?_⟩) | (go_at_call 12; (with_reducible refine (slabvaultlaw17_lives.calls k  t157 _ (lay_below HLAY_.out (by repeat (first | (with_reducible first | exact HB.out | apply below_alloc | apply pw_below_drewN | apply below_drew1) | exact HB.out))) A8.out).mono ?_); rintro e w13 ⟨rfl, hb⟩; have n0_ := Aside0.mk (Kd.R_below (by (with_reducible repeat (first | apply Kd.R_alloc | apply Kd.R_drewN | apply Kd.R_drew)); exact HO150.out) hb); have n1_ := Aside0.mk (Kd.R_below (by (with_reducible repeat (first | apply Kd.R_alloc | apply Kd.R_drewN | apply Kd.R_drew)); exact HO155.out) hb); have n2_ := Aside0.mk (below_step (by repeat (first | (with_reducible first | exact HB.out | apply below_alloc | apply pw_below_drewN | apply below_drew1) | exact HB.out)) hb); clear HO150; clear HO155; clear HB; have HO150 := n0_; have HO155 := n1_; have HB := n2_; clear n0_ n1_ n2_; (try clear hb); (try clear hb2); (try clear hk); (try clear hi)))
        go_ret
        exact ⟨by first | rfl | (simp [errW_none, errW_some] <;> rfl) | (simp [*, errW_none, errW_some] <;> rfl), by repeat (first | (with_reducible first | exact HB.out | apply below_alloc | apply pw_below_drewN | apply below_drew1) | exact HB.out)⟩
      · rw [if_neg c7] at H
        exact absurd H (by simp)
    · rw [if_neg c6] at H
      exact absurd H (by simp)
  · replace c5 := Bool.eq_false_iff.mpr c5
    subst c5
    have H1 : (none) = some r := by rw [if_neg (show ¬ (false = true) by decide)] at H; exact H
    clear H
    have H := H1
    clear H1
    exact absurd H (by simp)
def slabvaultlaw17_PathParses.Pure : Prop := ∀ (a0 : ByteArray), a0.size ≤ 140737488351232 → ∃ k, slabvaultlaw17_PathParses.f k a0 = some true
end Go.Proofs.YtbmginkdlcpnpaaDoor.Wk
end
section
namespace Go.Proofs.YtbmginkdlcpnpaaDoor.Wk
open Go.RowKit Go.Proofs.YtbmginkdlcpnpaaDoorW.PrintWords Go.Proofs.YtbmginkdlcpnpaaDoorW.PrintLast Go.Proofs.YtbmginkdlcpnpaaDoorW.PrintMore
attribute [local go_sem] max2_int min2_int max_two min_two max_three min_three max_four min_four
set_option linter.unusedVariables false
set_option linter.unusedSimpArgs false
def slabvaultlaw17_PathJoins.f (k : Nat) (l0 : List ByteArray) : Option (Bool) := (some (([] : List ByteArray) : List ByteArray)).bind fun y161 => (if y161.length + l0.length < 8796093022208 then ((some (y161 ++ l0 : List ByteArray)).bind fun y164 => ((path_Join.f y164).bind fun bt167 => ((slabvaultref17_Join.f k l0).bind fun bt170 => (if bt167.1.toList = bt170.1.toList then (if bt167.2.1 = bt170.2.1 then (if bt167.2.2 = bt170.2.2 then ((slabvaultlaw17_texts.f k y164 l0).bind fun t173 => (if t173 = true then ((slabvaultlaw17_lives.f k).bind fun t174 => (some t174)) else (none))) else (none)) else (none)) else (none))))) else (none))
end Go.Proofs.YtbmginkdlcpnpaaDoor.Wk
end
section
namespace Go.Proofs.YtbmginkdlcpnpaaDoor.Wk
open Go.RowKit Go.Proofs.YtbmginkdlcpnpaaDoorW.PrintWords Go.Proofs.YtbmginkdlcpnpaaDoorW.PrintLast Go.Proofs.YtbmginkdlcpnpaaDoorW.PrintMore
attribute [local go_sem] max2_int min2_int max_two min_two max_three min_three max_four min_four
set_option linter.unusedVariables false
set_option linter.unusedSimpArgs false
def slabvaultlaw17_PathBack.j0 : Nat → ByteArray → Option (Bool)
  | 0, _ => none
  | k + 1, x1 => (path_Parse.f x1).bind fun bt184 => (if bt184.2.2 = 0 then ((path_Join.f bt184.1).bind fun bt190 => ((path_Parse.f bt190.1).bind fun bt193 => (if bt190.2.2 = 0 then (if bt193.2.2 = 0 then ((slabvaultlaw17_texts.f k bt193.1 bt184.1).bind fun t198 => (if t198 = true then (if (bt190.1.size : Int) ≤ (x1.size : Int) then ((slabvaultlaw17_lives.f k).bind fun t199 => (some t199)) else (none)) else (none))) else (none)) else (none)))) else (if (bt184.1.length : Int) = 0 then ((slabvaultlaw17_lives.f k).bind fun t189 => (some t189)) else (none)))
def slabvaultlaw17_PathBack.f (k : Nat) (l0 : List ByteArray) (a1 : ByteArray) : Option (Bool) := (path_Join.f l0).bind fun bt175 => (if bt175.2.2 = 0 then ((path_Parse.f bt175.1).bind fun bt178 => (if bt178.2.2 = 0 then (if bt178.2.1 = 0 then ((slabvaultlaw17_texts.f k bt178.1 l0).bind fun t183 => (if t183 = true then (slabvaultlaw17_PathBack.j0 k a1) else (none))) else (none)) else (none))) else (slabvaultlaw17_PathBack.j0 k a1))
end Go.Proofs.YtbmginkdlcpnpaaDoor.Wk
end
section
namespace Go.Proofs.YtbmginkdlcpnpaaDoor.Wk
open Go.RowKit Go.Proofs.YtbmginkdlcpnpaaDoorW.PrintWords Go.Proofs.YtbmginkdlcpnpaaDoorW.PrintLast Go.Proofs.YtbmginkdlcpnpaaDoorW.PrintMore
attribute [local go_sem] max2_int min2_int max_two min_two max_three min_three max_four min_four
set_option linter.unusedVariables false
set_option linter.unusedSimpArgs false
def slabvaultlaw17_PathTogether.j0 : Nat → ByteArray → ByteArray → List ByteArray → List ByteArray → Bool → Option (Bool)
  | 0, _, _, _, _, _ => none
  | k + 1, x0, x1, x5, x8, x39 => if x39 = true then ((slabvaultlaw17_lives.f k).bind fun t210 => (some t210)) else (if x0.size + x1.size ≤ 9223372036854775807 then ((path_Parse.f (x0 ++ x1)).bind fun bt211 => (if (wrap64 ((x5.length : Int) + (x8.length : Int))) > 16 then (if bt211.2.2 = 3 then (if bt211.2.1 = 16 then (if (bt211.1.length : Int) = 0 then ((slabvaultlaw17_lives.f k).bind fun t216 => (some t216)) else (none)) else (none)) else (none)) else (if bt211.2.2 = 0 then ((some (([] : List ByteArray) : List ByteArray)).bind fun y217 => (if y217.length + x5.length < 8796093022208 then ((some (y217 ++ x5 : List ByteArray)).bind fun y220 => (if y220.length + x8.length < 8796093022208 then ((slabvaultlaw17_texts.f k bt211.1 (y220 ++ x8)).bind fun t226 => (if t226 = true then ((slabvaultlaw17_lives.f k).bind fun t227 => (some t227)) else (none))) else (none))) else (none))) else (none)))) else (none))
def slabvaultlaw17_PathTogether.f (k : Nat) (a0 : ByteArray) (a1 : ByteArray) : Option (Bool) := (path_Parse.f a0).bind fun bt200 => ((path_Parse.f a1).bind fun bt205 => (if bt200.2.2 = 0 then (if bt205.2.2 = 0 then (slabvaultlaw17_PathTogether.j0 k a0 a1 bt200.1 bt205.1 (decide ((wrap64 ((a0.size : Int) + (a1.size : Int))) > 1024))) else (slabvaultlaw17_PathTogether.j0 k a0 a1 bt200.1 bt205.1 true)) else (slabvaultlaw17_PathTogether.j0 k a0 a1 bt200.1 bt205.1 true)))
def slabvaultlaw17_PathTogether.Pure : Prop := ∀ (a0 : ByteArray) (a1 : ByteArray), a0.size ≤ 140737488351232 → a1.size ≤ 140737488351232 → ∃ k, slabvaultlaw17_PathTogether.f k a0 a1 = some true
end Go.Proofs.YtbmginkdlcpnpaaDoor.Wk
end
section
namespace Go.Proofs.YtbmginkdlcpnpaaDoor.Wk
open Go.RowKit Go.Proofs.YtbmginkdlcpnpaaDoorW.PrintWords Go.Proofs.YtbmginkdlcpnpaaDoorW.PrintLast Go.Proofs.YtbmginkdlcpnpaaDoorW.PrintMore
attribute [local go_sem] max2_int min2_int max_two min_two max_three min_three max_four min_four
set_option linter.unusedVariables false
set_option linter.unusedSimpArgs false
def path_Split.f (a0 : ByteArray) : Option (ByteArray × ByteArray × Int × Int) := some (splitP a0)
end Go.Proofs.YtbmginkdlcpnpaaDoor.Wk
end
section
namespace Go.Proofs.YtbmginkdlcpnpaaDoor.Wk
open Go.RowKit Go.Proofs.YtbmginkdlcpnpaaDoorW.PrintWords Go.Proofs.YtbmginkdlcpnpaaDoorW.PrintLast Go.Proofs.YtbmginkdlcpnpaaDoorW.PrintMore
attribute [local go_sem] max2_int min2_int max_two min_two max_three min_three max_four min_four
set_option linter.unusedVariables false
set_option linter.unusedSimpArgs false
def slabvaultlaw17_PathSplits.f (k : Nat) (a0 : ByteArray) : Option (Bool) := (path_Split.f a0).bind fun bt243 => ((slabvaultref17_Split.f k a0).bind fun bt247 => (if bt243.1.toList = bt247.1.toList then (if bt243.2.1.toList = bt247.2.1.toList then (if bt243.2.2.1 = bt247.2.2.1 then (if bt243.2.2.2 = bt247.2.2.2 then ((slabvaultlaw17_lives.f k).bind fun t251 => (some t251)) else (none)) else (none)) else (none)) else (none)))
def slabvaultlaw17_PathSplits.Pure : Prop := ∀ (a0 : ByteArray), a0.size ≤ 140737488351232 → ∃ k, slabvaultlaw17_PathSplits.f k a0 = some true
end Go.Proofs.YtbmginkdlcpnpaaDoor.Wk
end
section
namespace Go.Proofs.YtbmginkdlcpnpaaDoor.Wk
open Go.RowKit Go.Proofs.YtbmginkdlcpnpaaDoorW.PrintWords Go.Proofs.YtbmginkdlcpnpaaDoorW.PrintLast Go.Proofs.YtbmginkdlcpnpaaDoorW.PrintMore
attribute [local go_sem] max2_int min2_int max_two min_two max_three min_three max_four min_four
set_option linter.unusedVariables false
set_option linter.unusedSimpArgs false
def slabvaultlaw17_PathLast.f (k : Nat) (a0 : ByteArray) : Option (Bool) := (path_Parse.f a0).bind fun bt252 => ((path_Split.f a0).bind fun bt257 => (if bt252.2.2 = 0 then (if (bt252.1.length : Int) = 0 then (if bt257.2.2.2 = 11 then (if bt257.1.toList = ([] : List UInt8) then (if bt257.2.1.toList = ([] : List UInt8) then (if bt257.2.2.1 = 0 then ((slabvaultlaw17_lives.f k).bind fun t262 => (some t262)) else (none)) else (none)) else (none)) else (none)) else ((path_Parse.f bt257.1).bind fun bt263 => (if bt257.2.2.2 = 0 then (if bt263.2.2 = 0 then (if 0 ≤ (wrap64 ((bt252.1.length : Int) - 1)) then (if (wrap64 ((bt252.1.length : Int) - 1)) < (bt252.1.length : Int) then (if bt257.2.1.toList = (rdOf ByteArray.empty bt252.1 (wrap64 ((bt252.1.length : Int) - 1))).toList then (if (wrap64 ((bt252.1.length : Int) - 1)) ≤ (bt252.1.length : Int) then ((slabvaultlaw17_texts.f k bt263.1 (bt252.1.take ((wrap64 ((bt252.1.length : Int) - 1)) : Int).toNat)).bind fun t273 => (if t273 = true then ((path_Name.f bt257.2.1).bind fun t274 => (if t274 = true then ((slabvaultlaw17_lives.f k).bind fun t275 => (some t275)) else (none))) else (none))) else (none)) else (none)) else (none)) else (none)) else (none)) else (none)))) else (if bt257.2.2.2 = bt252.2.2 then (if bt257.2.2.1 = bt252.2.1 then (if bt257.1.toList = ([] : List UInt8) then (if bt257.2.1.toList = ([] : List UInt8) then ((slabvaultlaw17_lives.f k).bind fun t261 => (some t261)) else (none)) else (none)) else (none)) else (none))))
def slabvaultlaw17_PathLast.Pure : Prop := ∀ (a0 : ByteArray), a0.size ≤ 140737488351232 → ∃ k, slabvaultlaw17_PathLast.f k a0 = some true
end Go.Proofs.YtbmginkdlcpnpaaDoor.Wk
end
section
namespace Go.Proofs.YtbmginkdlcpnpaaDoor.Wk
open Go.RowKit Go.Lib Go.Proofs.YtbmginkdlcpnpaaDoorW.PrintWords Go.Proofs.YtbmginkdlcpnpaaDoorW.PrintLast Go.Proofs.YtbmginkdlcpnpaaDoorW.PrintMore
set_option linter.unusedVariables false
theorem parses_pure (s : ByteArray) : ∃ k, slabvaultlaw17_PathParses.f k s = some true := by
  refine ⟨5000, ?_⟩
  unfold slabvaultlaw17_PathParses.f path_Parse.f
  simp only [Option.bind_some]
  rw [ref_parse s 5000 (by omega)]
  simp only [Option.bind_some]
  have hl : (parseP s).1.length ≤ 16 := by
    unfold parseP
    cases hf : parseF s with
    | ok l => exact parseF_len hf
    | error p => simp
  rw [texts_refl _ (by omega) 5000 (by omega)]
  simp only [Option.bind_some, if_true]
  rw [lives_ok 5000 (by omega)]
  rfl
end Go.Proofs.YtbmginkdlcpnpaaDoor.Wk
end
