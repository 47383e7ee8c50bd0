-- Texts that the row PathTogether leans on, joined by wip/tools/mkclaim.py: Wk51, Wk54, Wk56, Wk57, Plain17c
import Derived.Test.YtbmginkdlcpnpaaDoorCPathTogether1
section
namespace Go.Proofs.YtbmginkdlcpnpaaDoor.Wk
open Go.RowKit Go.Proofs.YtbmginkdlcpnpaaDoorW.PrintWords Go.Proofs.YtbmginkdlcpnpaaDoorW.PrintLast Go.Proofs.YtbmginkdlcpnpaaDoorW.PrintMore
attribute [local go_sem] max2_int min2_int max_two min_two max_three min_three max_four min_four
set_option linter.unusedVariables false
set_option linter.unusedSimpArgs false
def slabvaultlaw17_PathTogether.j0 : Nat → ByteArray → ByteArray → List ByteArray → List ByteArray → Bool → Option (Bool)
  | 0, _, _, _, _, _ => none
  | k + 1, x0, x1, x5, x8, x39 => if x39 = true then ((slabvaultlaw17_lives.f k).bind fun t210 => (some t210)) else (if x0.size + x1.size ≤ 9223372036854775807 then ((path_Parse.f (x0 ++ x1)).bind fun bt211 => (if (wrap64 ((x5.length : Int) + (x8.length : Int))) > 16 then (if bt211.2.2 = 3 then (if bt211.2.1 = 16 then (if (bt211.1.length : Int) = 0 then ((slabvaultlaw17_lives.f k).bind fun t216 => (some t216)) else (none)) else (none)) else (none)) else (if bt211.2.2 = 0 then ((some (([] : List ByteArray) : List ByteArray)).bind fun y217 => (if y217.length + x5.length < 8796093022208 then ((some (y217 ++ x5 : List ByteArray)).bind fun y220 => (if y220.length + x8.length < 8796093022208 then ((slabvaultlaw17_texts.f k bt211.1 (y220 ++ x8)).bind fun t226 => (if t226 = true then ((slabvaultlaw17_lives.f k).bind fun t227 => (some t227)) else (none))) else (none))) else (none))) else (none)))) else (none))
def slabvaultlaw17_PathTogether.f (k : Nat) (a0 : ByteArray) (a1 : ByteArray) : Option (Bool) := (path_Parse.f a0).bind fun bt200 => ((path_Parse.f a1).bind fun bt205 => (if bt200.2.2 = 0 then (if bt205.2.2 = 0 then (slabvaultlaw17_PathTogether.j0 k a0 a1 bt200.1 bt205.1 (decide ((wrap64 ((a0.size : Int) + (a1.size : Int))) > 1024))) else (slabvaultlaw17_PathTogether.j0 k a0 a1 bt200.1 bt205.1 true)) else (slabvaultlaw17_PathTogether.j0 k a0 a1 bt200.1 bt205.1 true)))
set_option maxHeartbeats 8000000 in
set_option maxRecDepth 100000 in
theorem slabvaultlaw17_PathTogether.calls (k : Nat) (a0 : ByteArray) (a1 : ByteArray) (r : Bool) (w : World) (hlay_ : Lay w) (h : slabvaultlaw17_PathTogether.f k a0 a1 = some r) :
    Calls Tryd.prog 7 #[.string a0, .string a1] w fun e w' => e = .returned (.bool r) ∧ Below w.heap.size w w' := by
  have HLAY_ := Aside0.mk hlay_
  clear hlay_
  have HB := Aside0.mk (Below.refl w.heap.size w)
  have H : ((path_Parse.f a0).bind fun bt200 => ((path_Parse.f a1).bind fun bt205 => (if bt200.2.2 = 0 then (if bt205.2.2 = 0 then (slabvaultlaw17_PathTogether.j0 k a0 a1 bt200.1 bt205.1 (decide ((wrap64 ((a0.size : Int) + (a1.size : Int))) > 1024))) else (slabvaultlaw17_PathTogether.j0 k a0 a1 bt200.1 bt205.1 true)) else (slabvaultlaw17_PathTogether.j0 k a0 a1 bt200.1 bt205.1 true)))) = some r := h
  clear h
  replace H := Option.bind_eq_some_iff.mp H
  obtain ⟨⟨t200, t201, t202⟩, A30, H⟩ := H
  replace H : ((path_Parse.f a1).bind fun bt205 => (if t202 = 0 then (if bt205.2.2 = 0 then (slabvaultlaw17_PathTogether.j0 k a0 a1 t200 bt205.1 (decide ((wrap64 ((a0.size : Int) + (a1.size : Int))) > 1024))) else (slabvaultlaw17_PathTogether.j0 k a0 a1 t200 bt205.1 true)) else (slabvaultlaw17_PathTogether.j0 k a0 a1 t200 bt205.1 true))) = some r := H
  have A3 := Aside0.mk A30
  clear A30
  replace H := Option.bind_eq_some_iff.mp H
  obtain ⟨⟨t205, t206, t207⟩, A40, H⟩ := H
  replace H : (if t202 = 0 then (if t207 = 0 then (slabvaultlaw17_PathTogether.j0 k a0 a1 t200 t205 (decide ((wrap64 ((a0.size : Int) + (a1.size : Int))) > 1024))) else (slabvaultlaw17_PathTogether.j0 k a0 a1 t200 t205 true)) else (slabvaultlaw17_PathTogether.j0 k a0 a1 t200 t205 true)) = some r := H
  have A4 := Aside0.mk A40
  clear A40
  have HC5 := Aside0.mk H
  clear H
  go_enter Tryd.func7, Tryd.ntmps7
  go_upto_region 3 with (first | ((with_reducible refine gate_callee (f := 13) rfl ?_); refine goesL_ (some 16) rfl rfl Tryd.func13 (by kernel_rfl) rfl #[.string a0] rfl (by (try simp only [List.map_toArray, List.map_cons, List.map_nil]); first | done | rfl | (simp only [List.length_drop, List.length_take]; rfl)) ?_; (with_reducible refine (path_Parse.calls a0 t200 t201 t202 _ (lay_below HLAY_.out (by repeat (first | (with_reducible first | exact HB.out | apply below_alloc | apply pw_below_drewN | apply below_drew1) | exact HB.out))) A3.out).mono ?_); rintro e w6 ⟨v203, rfl, ho0, hb⟩; refine ⟨_, rfl, ?_⟩; have n0_ := Aside0.mk (Kd.R_lower ho0 (below_size (by repeat (first | (with_reducible first | exact HB.out | apply below_alloc | apply pw_below_drewN | apply below_drew1) | exact HB.out)))); have n1_ := Aside0.mk (below_step (by repeat (first | (with_reducible first | exact HB.out | apply below_alloc | apply pw_below_drewN | apply below_drew1) | exact HB.out)) hb); clear HB; have HO204 := n0_; have HB := n1_; clear n0_ n1_; (try clear hb); (try clear hb2); (try clear hk); (try clear hi); (try clear ho0)) | ((with_reducible refine gate_callee (f := 13) rfl ?_); refine goesL_ (some 22) rfl rfl Tryd.func13 (by kernel_rfl) rfl #[.string a1] rfl (by (try simp only [List.map_toArray, List.map_cons, List.map_nil]); first | done | rfl | (simp only [List.length_drop, List.length_take]; rfl)) ?_; (with_reducible refine (path_Parse.calls a1 t205 t206 t207 _ (lay_below HLAY_.out (by repeat (first | (with_reducible first | exact HB.out | apply below_alloc | apply pw_below_drewN | apply below_drew1) | exact HB.out))) A4.out).mono ?_); rintro e w7 ⟨v208, rfl, ho0, hb⟩; refine ⟨_, rfl, ?_⟩; have n0_ := Aside0.mk (Kd.R_elder' (by (with_reducible repeat (first | apply Kd.R_alloc | apply Kd.R_drewN | apply Kd.R_drew)); exact HO204.out) (Kd.R_base ho0) hb); have n1_ := Aside0.mk (Kd.R_lower (Kd.R_new' ho0 (Kd.R_lt (by (with_reducible repeat (first | apply Kd.R_alloc | apply Kd.R_drewN | apply Kd.R_drew)); exact HO204.out))) (below_size (by repeat (first | (with_reducible first | exact HB.out | apply below_alloc | apply pw_below_drewN | apply below_drew1) | exact HB.out)))); have n2_ := Aside0.mk (below_step (by repeat (first | (with_reducible first | exact HB.out | apply below_alloc | apply pw_below_drewN | apply below_drew1) | exact HB.out)) hb); clear HO204; clear HB; have HO204 := n0_; have HO209 := n1_; have HB := n2_; clear n0_ n1_ n2_; (try clear hb); (try clear hb2); (try clear hk); (try clear hi); (try clear ho0)))
  (try simp only [Act.put, List.setIfInBounds_toArray, List.set_cons_zero, List.set_cons_succ])
  go_cut [39] (fun v39 wc => ∃ (kq : Nat) (x39_4 : Bool), v39 = .bool x39_4 ∧ Aside0 (slabvaultlaw17_PathTogether.j0 kq a0 a1 t200 t205 x39_4 = some r) ∧ Aside0 (kq ≤ k) ∧ Aside0 (Kd.R Kd.string 9 wc w.heap.size (fun k_ => some k_ ≠ (v208 : Value).ownBlock) v203 t200) ∧ Aside0 (Kd.R Kd.string 9 wc w.heap.size (fun k_ => some k_ ≠ (v203 : Value).ownBlock) v208 t205) ∧ Aside0 (Below w.heap.size w wc))
  case first =>
    have H := HC5.out
    clear HC5
    by_cases c8 : t202 = 0
    · rw [if_pos c8] at H
      have c8b0 : (t202 == 0) = true := beq_iff_eq.mpr c8
      have c8b1 : (t202 != 0) = false := bne_eq_false_iff_eq.mpr c8
      clear c8
      (first | rw [c8b0] | (simp only [i64_w, i32_w]; rw [c8b0]) | skip)
      by_cases c9 : t207 = 0
      · rw [if_pos c9] at H
        have c9b0 : (t207 == 0) = true := beq_iff_eq.mpr c9
        have c9b1 : (t207 != 0) = false := bne_eq_false_iff_eq.mpr c9
        clear c9
        have H' := Aside0.mk H
        clear H
        go_wp2
        go_meet
        case rel => exact ⟨_, (decide ((wrap64 ((a0.size : Int) + (a1.size : Int))) > 1024)), (by first | rfl | (simp; done) | (simp [*]; done)), H', ⟨by first | omega | exact Nat.le_refl _⟩, ⟨by (with_reducible repeat (first | apply Kd.R_alloc | apply Kd.R_drewN | apply Kd.R_drew)); exact Kd.R_mono HO204.out (fun _ hk => hk.2)⟩, ⟨by (with_reducible repeat (first | apply Kd.R_alloc | apply Kd.R_drewN | apply Kd.R_drew)); exact Kd.R_mono HO209.out (fun _ hk => hk.2)⟩, ⟨by repeat (first | (with_reducible first | exact HB.out | apply below_alloc | apply pw_below_drewN | apply below_drew1) | exact HB.out)⟩⟩
      · rw [if_neg c9] at H
        have c9b0 : (t207 == 0) = false := beq_eq_false_iff_ne.mpr c9
        have c9b1 : (t207 != 0) = true := bne_iff_ne.mpr c9
        have H' := Aside0.mk H
        clear H
        go_wp2
        go_meet
        case rel => exact ⟨_, (true), (by first | rfl | (simp; done) | (simp [*]; done)), H', ⟨by first | omega | exact Nat.le_refl _⟩, ⟨by (with_reducible repeat (first | apply Kd.R_alloc | apply Kd.R_drewN | apply Kd.R_drew)); exact Kd.R_mono HO204.out (fun _ hk => hk.2)⟩, ⟨by (with_reducible repeat (first | apply Kd.R_alloc | apply Kd.R_drewN | apply Kd.R_drew)); exact Kd.R_mono HO209.out (fun _ hk => hk.2)⟩, ⟨by repeat (first | (with_reducible first | exact HB.out | apply below_alloc | apply pw_below_drewN | apply below_drew1) | exact HB.out)⟩⟩
    · rw [if_neg c8] at H
      have c8b0 : (t202 == 0) = false := beq_eq_false_iff_ne.mpr c8
      have c8b1 : (t202 != 0) = true := bne_iff_ne.mpr c8
      (first | rw [c8b0] | (simp only [i64_w, i32_w]; rw [c8b0]) | skip)
      have H' := Aside0.mk H
      clear H
      go_wp2
      go_meet
      case rel => exact ⟨_, (true), (by first | rfl | (simp; done) | (simp [*]; done)), H', ⟨by first | omega | exact Nat.le_refl _⟩, ⟨by (with_reducible repeat (first | apply Kd.R_alloc | apply Kd.R_drewN | apply Kd.R_drew)); exact Kd.R_mono HO204.out (fun _ hk => hk.2)⟩, ⟨by (with_reducible repeat (first | apply Kd.R_alloc | apply Kd.R_drewN | apply Kd.R_drew)); exact Kd.R_mono HO209.out (fun _ hk => hk.2)⟩, ⟨by repeat (first | (with_reducible first | exact HB.out | apply below_alloc | apply pw_below_drewN | apply below_drew1) | exact HB.out)⟩⟩
  case rest =>
    clear HC5
    try clear c1
    try clear p2
    try clear p6
    try clear c7
    try clear c8
    try clear c8b0
    try clear c8b1
    try clear c9
    try clear c9b0
    try clear c9b1
    obtain ⟨kq, x39_4, rfl, HA, HJ4, HO_5, HO_8, HB⟩ := hcut
    cases kq with
    | zero => exact absurd HA.out (by simp [slabvaultlaw17_PathTogether.j0])
    | succ kj4 =>
      have H := HA.out
      clear HA
      simp only [slabvaultlaw17_PathTogether.j0] at H
      by_cases c10 : x39_4 = true
      · subst c10
        have H1 : ((slabvaultlaw17_lives.f kj4).bind fun t210 => (some t210)) = some r := by rw [if_pos rfl] at H; exact H
        clear H
        have H := H1
        clear H1
        replace H := Option.bind_eq_some_iff.mp H
        obtain ⟨t210, A110, H⟩ := H
        replace H : (some t210) = some r := H
        have A11 := Aside0.mk A110
        clear A110
        obtain rfl := Option.some.inj H
        go_wp2_with (first | ((with_reducible refine gate_callee (f := 12) rfl ?_); refine goesL_ (some 40) rfl rfl Tryd.func12 (by kernel_rfl) rfl #[] rfl (by (try simp only [List.map_toArray, List.map_cons, List.map_nil]); first | done | rfl | (simp only [List.length_drop, List.length_take]; rfl)) ?_; (with_reducible refine (slabvaultlaw17_lives.calls kj4  t210 _ (lay_below HLAY_.out (by repeat (first | (with_reducible first | exact HB.out | apply below_alloc | apply pw_below_drewN | apply below_drew1) | exact HB.out))) A11.out).mono ?_); rintro e w12 ⟨rfl, hb⟩; refine ⟨_, rfl, ?_⟩; have n0_ := Aside0.mk (Kd.R_below (by (with_reducible repeat (first | apply Kd.R_alloc | apply Kd.R_drewN | apply Kd.R_drew)); exact HO_5.out) hb); have n1_ := Aside0.mk (Kd.R_below (by (with_reducible repeat (first | apply Kd.R_alloc | apply Kd.R_drewN | apply Kd.R_drew)); exact HO_8.out) hb); have n2_ := Aside0.mk (below_step (by repeat (first | (with_reducible first | exact HB.out | apply below_alloc | apply pw_below_drewN | apply below_drew1) | exact HB.out)) hb); clear HO_5; clear HO_8; clear HB; have HO_5 := n0_; have HO_8 := n1_; have HB := n2_; clear n0_ n1_ n2_; (try clear hb); (try clear hb2); (try clear hk); (try clear hi)))
        go_ret
        exact ⟨by first | rfl | (simp [errW_none, errW_some] <;> rfl) | (simp [*, errW_none, errW_some] <;> rfl), by repeat (first | (with_reducible first | exact HB.out | apply below_alloc | apply pw_below_drewN | apply below_drew1) | exact HB.out)⟩
      · replace c10 := Bool.eq_false_iff.mpr c10
        subst c10
        have H1 : (if a0.size + a1.size ≤ 9223372036854775807 then ((path_Parse.f (a0 ++ a1)).bind fun bt211 => (if (wrap64 ((t200.length : Int) + (t205.length : Int))) > 16 then (if bt211.2.2 = 3 then (if bt211.2.1 = 16 then (if (bt211.1.length : Int) = 0 then ((slabvaultlaw17_lives.f kj4).bind fun t216 => (some t216)) else (none)) else (none)) else (none)) else (if bt211.2.2 = 0 then ((some (([] : List ByteArray) : List ByteArray)).bind fun y217 => (if y217.length + t200.length < 8796093022208 then ((some (y217 ++ t200 : List ByteArray)).bind fun y220 => (if y220.length + t205.length < 8796093022208 then ((slabvaultlaw17_texts.f kj4 bt211.1 (y220 ++ t205)).bind fun t226 => (if t226 = true then ((slabvaultlaw17_lives.f kj4).bind fun t227 => (some t227)) else (none))) else (none))) else (none))) else (none)))) else (none)) = some r := by rw [if_neg (show ¬ (false = true) by decide)] at H; exact H
        clear H
        have H := H1
        clear H1
        by_cases c13 : a0.size + a1.size ≤ 9223372036854775807
        · rw [if_pos c13] at H
          have c13b0 := eq_true c13
          have c13b1 : decide (a0.size + a1.size ≤ 9223372036854775807) = true := decide_eq_true c13
          try have c13b2 : (9223372036854775807 < a0.size + a1.size) = False := eq_false (Nat.not_lt.2 c13)
          replace H := Option.bind_eq_some_iff.mp H
          obtain ⟨⟨t211, t212, t213⟩, A140, H⟩ := H
          replace H : (if (wrap64 ((t200.length : Int) + (t205.length : Int))) > 16 then (if t213 = 3 then (if t212 = 16 then (if (t211.length : Int) = 0 then ((slabvaultlaw17_lives.f kj4).bind fun t216 => (some t216)) else (none)) else (none)) else (none)) else (if t213 = 0 then ((some (([] : List ByteArray) : List ByteArray)).bind fun y217 => (if y217.length + t200.length < 8796093022208 then ((some (y217 ++ t200 : List ByteArray)).bind fun y220 => (if y220.length + t205.length < 8796093022208 then ((slabvaultlaw17_texts.f kj4 t211 (y220 ++ t205)).bind fun t226 => (if t226 = true then ((slabvaultlaw17_lives.f kj4).bind fun t227 => (some t227)) else (none))) else (none))) else (none))) else (none))) = some r := H
          have A14 := Aside0.mk A140
          clear A140
          by_cases c15 : (wrap64 ((t200.length : Int) + (t205.length : Int))) > 16
          · rw [if_pos c15] at H
            have c15b0 : decide (16 < (wrap64 ((t200.length : Int) + (t205.length : Int)))) = true := decide_eq_true c15
            clear c15
            by_cases c16 : t213 = 3
            · rw [if_pos c16] at H
              have c16b0 : (t213 == 3) = true := beq_iff_eq.mpr c16
              have c16b1 : (t213 != 3) = false := bne_eq_false_iff_eq.mpr c16
              clear c16
              by_cases c17 : t212 = 16
              · rw [if_pos c17] at H
                have c17b0 : (t212 == 16) = true := beq_iff_eq.mpr c17
                have c17b1 : (t212 != 16) = false := bne_eq_false_iff_eq.mpr c17
                clear c17
                by_cases c18 : (t211.length : Int) = 0
                · rw [if_pos c18] at H
                  have c18b0 : ((t211.length : Int) == 0) = true := beq_iff_eq.mpr c18
                  have c18b1 : ((t211.length : Int) != 0) = false := bne_eq_false_iff_eq.mpr c18
                  clear c18
                  replace H := Option.bind_eq_some_iff.mp H
                  obtain ⟨t216, A190, H⟩ := H
                  replace H : (some t216) = some r := H
                  have A19 := Aside0.mk A190
                  clear A190
                  obtain rfl := Option.some.inj H
                  go_wp2_with (first | ((with_reducible refine gate_callee (f := 13) rfl ?_); refine goesL_ (some 45) rfl rfl Tryd.func13 (by kernel_rfl) rfl #[.string (a0 ++ a1)] rfl (by (try simp only [List.map_toArray, List.map_cons, List.map_nil]); first | done | rfl | (simp only [List.length_drop, List.length_take]; rfl)) ?_; (with_reducible refine (path_Parse.calls (a0 ++ a1) t211 t212 t213 _ (lay_below HLAY_.out (by repeat (first | (with_reducible first | exact HB.out | apply below_alloc | apply pw_below_drewN | apply below_drew1) | exact HB.out))) A14.out).mono ?_); rintro e w20 ⟨v214, rfl, ho0, hb⟩; refine ⟨_, rfl, ?_⟩; have n0_ := Aside0.mk (Kd.R_elder' (by (with_reducible repeat (first | apply Kd.R_alloc | apply Kd.R_drewN | apply Kd.R_drew)); exact HO_5.out) (Kd.R_base ho0) hb); have n1_ := Aside0.mk (Kd.R_elder' (by (with_reducible repeat (first | apply Kd.R_alloc | apply Kd.R_drewN | apply Kd.R_drew)); exact HO_8.out) (Kd.R_base ho0) hb); have n2_ := Aside0.mk (Kd.R_lower (Kd.R_new' (Kd.R_new' ho0 (Kd.R_lt (by (with_reducible repeat (first | apply Kd.R_alloc | apply Kd.R_drewN | apply Kd.R_drew)); exact HO_5.out))) (Kd.R_lt (by (with_reducible repeat (first | apply Kd.R_alloc | apply Kd.R_drewN | apply Kd.R_drew)); exact HO_8.out))) (below_size (by repeat (first | (with_reducible first | exact HB.out | apply below_alloc | apply pw_below_drewN | apply below_drew1) | exact HB.out)))); have n3_ := Aside0.mk (below_step (by repeat (first | (with_reducible first | exact HB.out | apply below_alloc | apply pw_below_drewN | apply below_drew1) | exact HB.out)) hb); clear HO_5; clear HO_8; clear HB; have HO_5 := n0_; have HO_8 := n1_; have HO215 := n2_; have HB := n3_; clear n0_ n1_ n2_ n3_; (try clear hb); (try clear hb2); (try clear hk); (try clear hi); (try clear ho0); obtain ⟨Ao21, co21, eo21⟩ := Kd.R_slice HO_5.out; subst eo21; obtain ⟨Ao22, co22, eo22⟩ := Kd.R_slice HO_8.out; subst eo22; obtain ⟨Ao23, co23, eo23⟩ := Kd.R_slice HO215.out; subst eo23) | (go_at_call 12; (with_reducible refine (slabvaultlaw17_lives.calls kj4  t216 _ (lay_below HLAY_.out (by repeat (first | (with_reducible first | exact HB.out | apply below_alloc | apply pw_below_drewN | apply below_drew1) | exact HB.out))) A19.out).mono ?_); rintro e w24 ⟨rfl, hb⟩; have n0_ := Aside0.mk (Kd.R_below (by (with_reducible repeat (first | apply Kd.R_alloc | apply Kd.R_drewN | apply Kd.R_drew)); exact HO_5.out) hb); have n1_ := Aside0.mk (Kd.R_below (by (with_reducible repeat (first | apply Kd.R_alloc | apply Kd.R_drewN | apply Kd.R_drew)); exact HO_8.out) hb); have n2_ := Aside0.mk (Kd.R_below (by (with_reducible repeat (first | apply Kd.R_alloc | apply Kd.R_drewN | apply Kd.R_drew)); exact HO215.out) hb); have n3_ := Aside0.mk (below_step (by repeat (first | (with_reducible first | exact HB.out | apply below_alloc | apply pw_below_drewN | apply below_drew1) | exact HB.out)) hb); clear HO_5; clear HO_8; clear HO215; clear HB; have HO_5 := n0_; have HO_8 := n1_; have HO215 := n2_; have HB := n3_; clear n0_ n1_ n2_ n3_; (try clear hb); (try clear hb2); (try clear hk); (try clear hi)))
                  go_ret
                  exact ⟨by first | rfl | (simp [errW_none, errW_some] <;> rfl) | (simp [*, errW_none, errW_some] <;> rfl), by repeat (first | (with_reducible first | exact HB.out | apply below_alloc | apply pw_below_drewN | apply below_drew1) | exact HB.out)⟩
                · rw [if_neg c18] at H
                  exact absurd H (by simp)
              · rw [if_neg c17] at H
                exact absurd H (by simp)
            · rw [if_neg c16] at H
              exact absurd H (by simp)
          · rw [if_neg c15] at H
            have c15b0 : decide (16 < (wrap64 ((t200.length : Int) + (t205.length : Int)))) = false := decide_eq_false c15
            clear c15
            by_cases c25 : t213 = 0
            · rw [if_pos c25] at H
              have c25b0 : (t213 == 0) = true := beq_iff_eq.mpr c25
              have c25b1 : (t213 != 0) = false := bne_eq_false_iff_eq.mpr c25
              clear c25
              obtain ⟨y217, hy217⟩ : ∃ y_ : List ByteArray, y_ = (([] : List ByteArray)) := ⟨_, rfl⟩
              replace H : (if y217.length + t200.length < 8796093022208 then ((some (y217 ++ t200 : List ByteArray)).bind fun y220 => (if y220.length + t205.length < 8796093022208 then ((slabvaultlaw17_texts.f kj4 t211 (y220 ++ t205)).bind fun t226 => (if t226 = true then ((slabvaultlaw17_lives.f kj4).bind fun t227 => (some t227)) else (none))) else (none))) else (none)) = some r := by first | (rw [hy217]; with_reducible exact H) | (have H2_ := (Option.bind_some _ _).symm.trans H; rw [hy217]; with_reducible exact H2_) | (have H2_ := (Option.bind_some _ _).symm.trans H; with_reducible exact H2_) | with_reducible exact H | (rw [hy217]; exact H) | exact H
              have Ny217 := Aside0.mk hy217
              clear hy217
              by_cases c26 : y217.length + t200.length < 8796093022208
              · rw [if_pos c26] at H
                have LMc26 := Aside0.mk c26
                clear c26
                obtain ⟨y220, hy220⟩ : ∃ y_ : List ByteArray, y_ = (y217 ++ t200) := ⟨_, rfl⟩
                replace H : (if y220.length + t205.length < 8796093022208 then ((slabvaultlaw17_texts.f kj4 t211 (y220 ++ t205)).bind fun t226 => (if t226 = true then ((slabvaultlaw17_lives.f kj4).bind fun t227 => (some t227)) else (none))) else (none)) = some r := by first | (rw [hy220]; with_reducible exact H) | (have H2_ := (Option.bind_some _ _).symm.trans H; rw [hy220]; with_reducible exact H2_) | (have H2_ := (Option.bind_some _ _).symm.trans H; with_reducible exact H2_) | with_reducible exact H | (rw [hy220]; exact H) | exact H
                have Ny220 := Aside0.mk hy220
                clear hy220
                by_cases c27 : y220.length + t205.length < 8796093022208
                · rw [if_pos c27] at H
                  have LMc27 := Aside0.mk c27
                  clear c27
                  obtain ⟨y223, hy223⟩ : ∃ y_ : List ByteArray, y_ = (y220 ++ t205) := ⟨_, rfl⟩
                  replace H : ((slabvaultlaw17_texts.f kj4 t211 y223).bind fun t226 => (if t226 = true then ((slabvaultlaw17_lives.f kj4).bind fun t227 => (some t227)) else (none))) = some r := by first | (rw [hy223]; with_reducible exact H) | (have H2_ := (Option.bind_some _ _).symm.trans H; rw [hy223]; with_reducible exact H2_) | (have H2_ := (Option.bind_some _ _).symm.trans H; with_reducible exact H2_) | with_reducible exact H | (rw [hy223]; exact H) | exact H
                  have Ny223 := Aside0.mk hy223
                  clear hy223
                  replace H := Option.bind_eq_some_iff.mp H
                  obtain ⟨t226, A280, H⟩ := H
                  replace H : (if t226 = true then ((slabvaultlaw17_lives.f kj4).bind fun t227 => (some t227)) else (none)) = some r := H
                  have A28 := Aside0.mk A280
                  clear A280
                  by_cases c29 : t226 = true
                  · subst c29
                    have H1 : ((slabvaultlaw17_lives.f kj4).bind fun t227 => (some t227)) = some r := by rw [if_pos rfl] at H; exact H
                    clear H
                    have H := H1
                    clear H1
                    replace H := Option.bind_eq_some_iff.mp H
                    obtain ⟨t227, A300, H⟩ := H
                    replace H : (some t227) = some r := H
                    have A30 := Aside0.mk A300
                    clear A300
                    obtain rfl := Option.some.inj H
                    go_wp2_with (first | ((with_reducible refine gate_callee (f := 13) rfl ?_); refine goesL_ (some 45) rfl rfl Tryd.func13 (by kernel_rfl) rfl #[.string (a0 ++ a1)] rfl (by (try simp only [List.map_toArray, List.map_cons, List.map_nil]); first | done | rfl | (simp only [List.length_drop, List.length_take]; rfl)) ?_; (with_reducible refine (path_Parse.calls (a0 ++ a1) t211 t212 t213 _ (lay_below HLAY_.out (by repeat (first | (with_reducible first | exact HB.out | apply below_alloc | apply pw_below_drewN | apply below_drew1) | exact HB.out))) A14.out).mono ?_); rintro e w31 ⟨v214, rfl, ho0, hb⟩; refine ⟨_, rfl, ?_⟩; have n0_ := Aside0.mk (Kd.R_elder' (by (with_reducible repeat (first | apply Kd.R_alloc | apply Kd.R_drewN | apply Kd.R_drew)); exact HO_5.out) (Kd.R_base ho0) hb); have n1_ := Aside0.mk (Kd.R_elder' (by (with_reducible repeat (first | apply Kd.R_alloc | apply Kd.R_drewN | apply Kd.R_drew)); exact HO_8.out) (Kd.R_base ho0) hb); have n2_ := Aside0.mk (Kd.R_lower (Kd.R_new' (Kd.R_new' ho0 (Kd.R_lt (by (with_reducible repeat (first | apply Kd.R_alloc | apply Kd.R_drewN | apply Kd.R_drew)); exact HO_5.out))) (Kd.R_lt (by (with_reducible repeat (first | apply Kd.R_alloc | apply Kd.R_drewN | apply Kd.R_drew)); exact HO_8.out))) (below_size (by repeat (first | (with_reducible first | exact HB.out | apply below_alloc | apply pw_below_drewN | apply below_drew1) | exact HB.out)))); have n3_ := Aside0.mk (below_step (by repeat (first | (with_reducible first | exact HB.out | apply below_alloc | apply pw_below_drewN | apply below_drew1) | exact HB.out)) hb); clear HO_5; clear HO_8; clear HB; have HO_5 := n0_; have HO_8 := n1_; have HO215 := n2_; have HB := n3_; clear n0_ n1_ n2_ n3_; (try clear hb); (try clear hb2); (try clear hk); (try clear hi); (try clear ho0); obtain ⟨Ao32, co32, eo32⟩ := Kd.R_slice HO_5.out; subst eo32; obtain ⟨Ao33, co33, eo33⟩ := Kd.R_slice HO_8.out; subst eo33) | ((with_reducible refine gate_dst (N := 73) rfl ?_); (try (refine gate_guard (by rfl) ?_; dsimp only)); refine Kd.R_lit Kd.string _ 9 ?hg (N := 73) ?hd (xs := ([] : List ByteArray)) (inner := []) (ok := fun _ => True) (okp := fun _ => True) ?hr ?hp (fun _ hk => hk) trivial (Below.refl _ _) (Nat.le_refl _) (by simp) ?_; (case hd => rfl); (case hg => rfl); (case hr => first | (go_simp; done) | (go_simp; rfl)); (case hp => exact (Reps.none _ _)); intro v218 w34 ho35 hb hg_ hnew_; clear hg_ hnew_; (first | rw [← Ny217.out] at ho35 | (simp only [Int.reduceToNat] at ho35; rw [← Ny217.out] at ho35)); have n0_ := Aside0.mk (Kd.R_elder' (by (with_reducible repeat (first | apply Kd.R_alloc | apply Kd.R_drewN | apply Kd.R_drew)); exact HO_5.out) (Kd.R_base ho35) hb); have n1_ := Aside0.mk (Kd.R_elder' (by (with_reducible repeat (first | apply Kd.R_alloc | apply Kd.R_drewN | apply Kd.R_drew)); exact HO_8.out) (Kd.R_base ho35) hb); have n2_ := Aside0.mk (Kd.R_elder' (by (with_reducible repeat (first | apply Kd.R_alloc | apply Kd.R_drewN | apply Kd.R_drew)); exact HO215.out) (Kd.R_base ho35) hb); have n3_ := Aside0.mk (Kd.R_lower (Kd.R_new' (Kd.R_new' (Kd.R_new' ho35 (Kd.R_lt (by (with_reducible repeat (first | apply Kd.R_alloc | apply Kd.R_drewN | apply Kd.R_drew)); exact HO_5.out))) (Kd.R_lt (by (with_reducible repeat (first | apply Kd.R_alloc | apply Kd.R_drewN | apply Kd.R_drew)); exact HO_8.out))) (Kd.R_lt (by (with_reducible repeat (first | apply Kd.R_alloc | apply Kd.R_drewN | apply Kd.R_drew)); exact HO215.out))) (below_size (by repeat (first | (with_reducible first | exact HB.out | apply below_alloc | apply pw_below_drewN | apply below_drew1) | exact HB.out)))); have n4_ := Aside0.mk (below_step (by repeat (first | (with_reducible first | exact HB.out | apply below_alloc | apply pw_below_drewN | apply below_drew1) | exact HB.out)) hb); clear HO_5; clear HO_8; clear HO215; clear HB; have HO_5 := n0_; have HO_8 := n1_; have HO215 := n2_; have HO219 := n3_; have HB := n4_; clear n0_ n1_ n2_ n3_ n4_; clear hb ho35) | ((with_reducible refine gate_builtin (b := .append) (xs := #[.tmp 73, .tmp 74]) rfl ?_); (try (refine gate_guard (by rfl) ?_; dsimp only)); at_builtin; refine Kd.R_append_rows Kd.string (w0 := w) w.heap.size rfl (.tmp 73) (.tmp 74) 24 9 (.string ⟨#[]⟩) 16 rfl Tryd.underlying24 info9 rfl (by decide) (by omega) v218 y217 t200 _ _ _ (fun k_ => some k_ ≠ (.slice Ao32 t200.length co32 : Value).ownBlock ∧ some k_ ≠ (.slice Ao33 t205.length co33 : Value).ownBlock ∧ some k_ ≠ (v214 : Value).ownBlock) (fun _ => False) rfl rfl ?aO ?aR (fun _ _ h => h) (fun _ h => h.elim) ?aF ?aB ?aS ?aL ?_; (case aR => repeat (first | exact (Kd.R_reads' HO_5.out).2.2 | (with_reducible refine Kd.C_alloc ?_ _) | (with_reducible refine Kd.C_drewN ?_ _) | (with_reducible refine Kd.C_drew ?_))); (case aB => exact (by repeat (first | (with_reducible first | exact HB.out | apply below_alloc | apply pw_below_drewN | apply below_drew1) | exact HB.out))); (case aF => exact (fun k_ hk => ⟨Kd.fresh' (Kd.R_lt (by (with_reducible repeat (first | apply Kd.R_alloc | apply Kd.R_drewN | apply Kd.R_drew)); exact HO_5.out)) k_ hk, Kd.fresh' (Kd.R_lt (by (with_reducible repeat (first | apply Kd.R_alloc | apply Kd.R_drewN | apply Kd.R_drew)); exact HO_8.out)) k_ hk, Kd.fresh' (Kd.R_lt (by (with_reducible repeat (first | apply Kd.R_alloc | apply Kd.R_drewN | apply Kd.R_drew)); exact HO215.out)) k_ hk⟩)); (case aO => exact (by (with_reducible repeat (first | apply Kd.R_alloc | apply Kd.R_drewN | apply Kd.R_drew)); exact Kd.R_mono HO219.out (fun _ hk => ⟨hk.1.1.2, ⟨hk.1.2, hk.2⟩⟩))); (case aS => exact (below_size (by repeat (first | (with_reducible first | exact HB.out | apply below_alloc | apply pw_below_drewN | apply below_drew1) | exact HB.out)))); (case aL => have := LMc26.out; omega); intro v221 w36 ho hb hg hat; rw [← Ny220.out] at ho; have n0_ := Aside0.mk (Kd.R_after (ok := (fun k_ => some k_ ≠ (.slice Ao33 t205.length co33 : Value).ownBlock ∧ some k_ ≠ (v214 : Value).ownBlock)) (by (with_reducible repeat (first | apply Kd.R_alloc | apply Kd.R_drewN | apply Kd.R_drew)); exact HO_5.out) hg hat); have n1_ := Aside0.mk (Kd.R_after (ok := (fun k_ => some k_ ≠ (.slice Ao32 t200.length co32 : Value).ownBlock ∧ some k_ ≠ (v214 : Value).ownBlock)) (by (with_reducible repeat (first | apply Kd.R_alloc | apply Kd.R_drewN | apply Kd.R_drew)); exact HO_8.out) hg hat); have n2_ := Aside0.mk (Kd.R_after (ok := (fun k_ => some k_ ≠ (.slice Ao32 t200.length co32 : Value).ownBlock ∧ some k_ ≠ (.slice Ao33 t205.length co33 : Value).ownBlock)) (by (with_reducible repeat (first | apply Kd.R_alloc | apply Kd.R_drewN | apply Kd.R_drew)); exact Kd.R_mono HO215.out (fun _ hk => ⟨⟨hk.1.1.2, hk.1.2⟩, hk.2⟩)) hg hat); have n3_ := Aside0.mk (hb); have n4_ := Aside0.mk (ho); clear HO_5; clear HO_8; clear HO215; clear HB; clear HO219; have HO_5 := n0_; have HO_8 := n1_; have HO215 := n2_; have HB := n3_; have HO222 := n4_; clear n0_ n1_ n2_ n3_ n4_; clear ho hb hg hat) | ((with_reducible refine gate_builtin (b := .append) (xs := #[.tmp 75, .tmp 76]) rfl ?_); (try (refine gate_guard (by rfl) ?_; dsimp only)); at_builtin; refine Kd.R_append_rows Kd.string (w0 := w) w.heap.size rfl (.tmp 75) (.tmp 76) 24 9 (.string ⟨#[]⟩) 16 rfl Tryd.underlying24 info9 rfl (by decide) (by omega) v221 y220 t205 _ _ _ (fun k_ => some k_ ≠ (.slice Ao32 t200.length co32 : Value).ownBlock ∧ some k_ ≠ (.slice Ao33 t205.length co33 : Value).ownBlock ∧ some k_ ≠ (v214 : Value).ownBlock) (fun _ => False) rfl rfl ?aO ?aR (fun _ _ h => h) (fun _ h => h.elim) ?aF ?aB ?aS ?aL ?_; (case aR => repeat (first | exact (Kd.R_reads' HO_8.out).2.2 | (with_reducible refine Kd.C_alloc ?_ _) | (with_reducible refine Kd.C_drewN ?_ _) | (with_reducible refine Kd.C_drew ?_))); (case aB => exact (by repeat (first | (with_reducible first | exact HB.out | apply below_alloc | apply pw_below_drewN | apply below_drew1) | exact HB.out))); (case aF => exact (fun k_ hk => ⟨Kd.fresh' (Kd.R_lt (by (with_reducible repeat (first | apply Kd.R_alloc | apply Kd.R_drewN | apply Kd.R_drew)); exact HO_5.out)) k_ hk, Kd.fresh' (Kd.R_lt (by (with_reducible repeat (first | apply Kd.R_alloc | apply Kd.R_drewN | apply Kd.R_drew)); exact HO_8.out)) k_ hk, Kd.fresh' (Kd.R_lt (by (with_reducible repeat (first | apply Kd.R_alloc | apply Kd.R_drewN | apply Kd.R_drew)); exact HO215.out)) k_ hk⟩)); (case aO => exact (by (with_reducible repeat (first | apply Kd.R_alloc | apply Kd.R_drewN | apply Kd.R_drew)); exact HO222.out)); (case aS => exact (below_size (by repeat (first | (with_reducible first | exact HB.out | apply below_alloc | apply pw_below_drewN | apply below_drew1) | exact HB.out)))); (case aL => have := LMc27.out; omega); intro v224 w37 ho hb hg hat; rw [← Ny223.out] at ho; have n0_ := Aside0.mk (Kd.R_after (ok := (fun k_ => some k_ ≠ (.slice Ao33 t205.length co33 : Value).ownBlock ∧ some k_ ≠ (v214 : Value).ownBlock)) (by (with_reducible repeat (first | apply Kd.R_alloc | apply Kd.R_drewN | apply Kd.R_drew)); exact HO_5.out) hg hat); have n1_ := Aside0.mk (Kd.R_after (ok := (fun k_ => some k_ ≠ (.slice Ao32 t200.length co32 : Value).ownBlock ∧ some k_ ≠ (v214 : Value).ownBlock)) (by (with_reducible repeat (first | apply Kd.R_alloc | apply Kd.R_drewN | apply Kd.R_drew)); exact HO_8.out) hg hat); have n2_ := Aside0.mk (Kd.R_after (ok := (fun k_ => some k_ ≠ (.slice Ao32 t200.length co32 : Value).ownBlock ∧ some k_ ≠ (.slice Ao33 t205.length co33 : Value).ownBlock)) (by (with_reducible repeat (first | apply Kd.R_alloc | apply Kd.R_drewN | apply Kd.R_drew)); exact HO215.out) hg hat); have n3_ := Aside0.mk (hb); have n4_ := Aside0.mk (ho); clear HO_5; clear HO_8; clear HO215; clear HB; clear HO222; have HO_5 := n0_; have HO_8 := n1_; have HO215 := n2_; have HB := n3_; have HO225 := n4_; clear n0_ n1_ n2_ n3_ n4_; clear ho hb hg hat; obtain ⟨Ao38, co38, eo38⟩ := Kd.R_slice HO215.out; subst eo38; obtain ⟨Ao39, co39, eo39⟩ := Kd.R_slice HO225.out; subst eo39) | (go_at_call 15; (with_reducible refine (slabvaultlaw17_texts.calls kj4 _ _ t211 _ _ y223 true _ ?side1 ?side2 ?side3 ?side4 A28.out).mono ?_); (case side1 => repeat (first | exact (Kd.R_reads' HO215.out).2.2 | (with_reducible refine Kd.C_alloc ?_ _) | (with_reducible refine Kd.C_drewN ?_ _) | (with_reducible refine Kd.C_drew ?_))); (case side2 => exact (Kd.R_reads' HO215.out).2.1); (case side3 => repeat (first | exact (Kd.R_reads' HO225.out).2.2 | (with_reducible refine Kd.C_alloc ?_ _) | (with_reducible refine Kd.C_drewN ?_ _) | (with_reducible refine Kd.C_drew ?_))); (case side4 => exact (Kd.R_reads' HO225.out).2.1); rintro e w' ⟨rfl, ⟨nd, rfl⟩⟩) | (go_at_call 12; (with_reducible refine (slabvaultlaw17_lives.calls kj4  t227 _ (lay_below HLAY_.out (by repeat (first | (with_reducible first | exact HB.out | apply below_alloc | apply pw_below_drewN | apply below_drew1) | exact HB.out))) A30.out).mono ?_); rintro e w40 ⟨rfl, hb⟩; have n0_ := Aside0.mk (Kd.R_below (by (with_reducible repeat (first | apply Kd.R_alloc | apply Kd.R_drewN | apply Kd.R_drew)); exact HO_5.out) hb); have n1_ := Aside0.mk (Kd.R_below (by (with_reducible repeat (first | apply Kd.R_alloc | apply Kd.R_drewN | apply Kd.R_drew)); exact HO_8.out) hb); have n2_ := Aside0.mk (Kd.R_below (by (with_reducible repeat (first | apply Kd.R_alloc | apply Kd.R_drewN | apply Kd.R_drew)); exact HO215.out) hb); have n3_ := Aside0.mk (Kd.R_below (by (with_reducible repeat (first | apply Kd.R_alloc | apply Kd.R_drewN | apply Kd.R_drew)); exact HO225.out) hb); have n4_ := Aside0.mk (below_step (by repeat (first | (with_reducible first | exact HB.out | apply below_alloc | apply pw_below_drewN | apply below_drew1) | exact HB.out)) hb); clear HO_5; clear HO_8; clear HO215; clear HO225; clear HB; have HO_5 := n0_; have HO_8 := n1_; have HO215 := n2_; have HO225 := n3_; have HB := n4_; clear n0_ n1_ n2_ n3_ n4_; (try clear hb); (try clear hb2); (try clear hk); (try clear hi)))
                    go_ret
                    exact ⟨by first | rfl | (simp [errW_none, errW_some] <;> rfl) | (simp [*, errW_none, errW_some] <;> rfl), by repeat (first | (with_reducible first | exact HB.out | apply below_alloc | apply pw_below_drewN | apply below_drew1) | exact HB.out)⟩
                  · replace c29 := Bool.eq_false_iff.mpr c29
                    subst c29
                    have H1 : (none) = some r := by rw [if_neg (show ¬ (false = true) by decide)] at H; exact H
                    clear H
                    have H := H1
                    clear H1
                    exact absurd H (by simp)
                · rw [if_neg c27] at H
                  exact absurd H (by simp)
              · rw [if_neg c26] at H
                exact absurd H (by simp)
            · rw [if_neg c25] at H
              exact absurd H (by simp)
        · rw [if_neg c13] at H
          exact absurd H (by simp)
def slabvaultlaw17_PathTogether.Pure : Prop := ∀ (a0 : ByteArray) (a1 : ByteArray), a0.size ≤ 140737488351232 → a1.size ≤ 140737488351232 → ∃ k, slabvaultlaw17_PathTogether.f k a0 a1 = some true
end Go.Proofs.YtbmginkdlcpnpaaDoor.Wk
end
section
namespace Go.Proofs.YtbmginkdlcpnpaaDoor.Wk
open Go.RowKit Go.Proofs.YtbmginkdlcpnpaaDoorW.PrintWords Go.Proofs.YtbmginkdlcpnpaaDoorW.PrintLast Go.Proofs.YtbmginkdlcpnpaaDoorW.PrintMore
attribute [local go_sem] max2_int min2_int max_two min_two max_three min_three max_four min_four
set_option linter.unusedVariables false
set_option linter.unusedSimpArgs false
def path_Split.f (a0 : ByteArray) : Option (ByteArray × ByteArray × Int × Int) := some (splitP a0)
end Go.Proofs.YtbmginkdlcpnpaaDoor.Wk
end
section
namespace Go.Proofs.YtbmginkdlcpnpaaDoor.Wk
open Go.RowKit Go.Proofs.YtbmginkdlcpnpaaDoorW.PrintWords Go.Proofs.YtbmginkdlcpnpaaDoorW.PrintLast Go.Proofs.YtbmginkdlcpnpaaDoorW.PrintMore
attribute [local go_sem] max2_int min2_int max_two min_two max_three min_three max_four min_four
set_option linter.unusedVariables false
set_option linter.unusedSimpArgs false
def slabvaultlaw17_PathSplits.f (k : Nat) (a0 : ByteArray) : Option (Bool) := (path_Split.f a0).bind fun bt243 => ((slabvaultref17_Split.f k a0).bind fun bt247 => (if bt243.1.toList = bt247.1.toList then (if bt243.2.1.toList = bt247.2.1.toList then (if bt243.2.2.1 = bt247.2.2.1 then (if bt243.2.2.2 = bt247.2.2.2 then ((slabvaultlaw17_lives.f k).bind fun t251 => (some t251)) else (none)) else (none)) else (none)) else (none)))
def slabvaultlaw17_PathSplits.Pure : Prop := ∀ (a0 : ByteArray), a0.size ≤ 140737488351232 → ∃ k, slabvaultlaw17_PathSplits.f k a0 = some true
end Go.Proofs.YtbmginkdlcpnpaaDoor.Wk
end
section
namespace Go.Proofs.YtbmginkdlcpnpaaDoor.Wk
open Go.RowKit Go.Proofs.YtbmginkdlcpnpaaDoorW.PrintWords Go.Proofs.YtbmginkdlcpnpaaDoorW.PrintLast Go.Proofs.YtbmginkdlcpnpaaDoorW.PrintMore
attribute [local go_sem] max2_int min2_int max_two min_two max_three min_three max_four min_four
set_option linter.unusedVariables false
set_option linter.unusedSimpArgs false
def slabvaultlaw17_PathLast.f (k : Nat) (a0 : ByteArray) : Option (Bool) := (path_Parse.f a0).bind fun bt252 => ((path_Split.f a0).bind fun bt257 => (if bt252.2.2 = 0 then (if (bt252.1.length : Int) = 0 then (if bt257.2.2.2 = 11 then (if bt257.1.toList = ([] : List UInt8) then (if bt257.2.1.toList = ([] : List UInt8) then (if bt257.2.2.1 = 0 then ((slabvaultlaw17_lives.f k).bind fun t262 => (some t262)) else (none)) else (none)) else (none)) else (none)) else ((path_Parse.f bt257.1).bind fun bt263 => (if bt257.2.2.2 = 0 then (if bt263.2.2 = 0 then (if 0 ≤ (wrap64 ((bt252.1.length : Int) - 1)) then (if (wrap64 ((bt252.1.length : Int) - 1)) < (bt252.1.length : Int) then (if bt257.2.1.toList = (rdOf ByteArray.empty bt252.1 (wrap64 ((bt252.1.length : Int) - 1))).toList then (if (wrap64 ((bt252.1.length : Int) - 1)) ≤ (bt252.1.length : Int) then ((slabvaultlaw17_texts.f k bt263.1 (bt252.1.take ((wrap64 ((bt252.1.length : Int) - 1)) : Int).toNat)).bind fun t273 => (if t273 = true then ((path_Name.f bt257.2.1).bind fun t274 => (if t274 = true then ((slabvaultlaw17_lives.f k).bind fun t275 => (some t275)) else (none))) else (none))) else (none)) else (none)) else (none)) else (none)) else (none)) else (none)))) else (if bt257.2.2.2 = bt252.2.2 then (if bt257.2.2.1 = bt252.2.1 then (if bt257.1.toList = ([] : List UInt8) then (if bt257.2.1.toList = ([] : List UInt8) then ((slabvaultlaw17_lives.f k).bind fun t261 => (some t261)) else (none)) else (none)) else (none)) else (none))))
def slabvaultlaw17_PathLast.Pure : Prop := ∀ (a0 : ByteArray), a0.size ≤ 140737488351232 → ∃ k, slabvaultlaw17_PathLast.f k a0 = some true
end Go.Proofs.YtbmginkdlcpnpaaDoor.Wk
end
section
namespace Go.Proofs.YtbmginkdlcpnpaaDoor.Wk
open Go.RowKit Go.Lib Go.Proofs.YtbmginkdlcpnpaaDoorW.PrintWords Go.Proofs.YtbmginkdlcpnpaaDoorW.PrintLast Go.Proofs.YtbmginkdlcpnpaaDoorW.PrintMore
set_option linter.unusedVariables false
theorem parseP_ok {s : ByteArray} {l : List ByteArray} (h : parseF s = .ok l) : parseP s = (l, 0, 0) := by unfold parseP; rw [h]
theorem parseP_err {s : ByteArray} {a : Nat} {y : Int} (h : parseF s = .error (a, y)) : parseP s = ([], (a : Int), y) := by unfold parseP; rw [h]
theorem together_big (a b : ByteArray) (k l : List ByteArray) (n : Nat) (hn : 10 ≤ n) : slabvaultlaw17_PathTogether.j0 (n + 1) a b k l true = some true := by
  simp only [slabvaultlaw17_PathTogether.j0, if_true]
  rw [lives_ok n hn]
  rfl
theorem together_small (a b : ByteArray) (k l : List ByteArray) (n : Nat) (hn : 5000 ≤ n) (hfa : parseF a = .ok k) (hfb : parseF b = .ok l) (hs : a.size + b.size ≤ 1024) : slabvaultlaw17_PathTogether.j0 (n + 1) a b k l false = some true := by
  have h2 := parse_two hfa hfb hs
  have hk := parseF_len hfa
  have hl := parseF_len hfb
  have hw2 : wrap64 ((k.length : Int) + (l.length : Int)) = (k.length : Int) + (l.length : Int) := by unfold wrap64; omega
  simp only [slabvaultlaw17_PathTogether.j0]
  rw [if_neg (by simp), if_pos (by omega)]
  unfold path_Parse.f
  rw [Option.bind_some, hw2]
  by_cases h16 : k.length + l.length ≤ 16
  · rw [if_pos h16] at h2
    rw [parseP_ok h2, if_neg (by omega), if_pos rfl, Option.bind_some, if_pos (by simp; omega), Option.bind_some, if_pos (by simp; omega), List.nil_append, texts_refl (k ++ l) (by simp; omega) n (by simp; omega), Option.bind_some, if_pos rfl, lives_ok n (by omega), Option.bind_some]
  · rw [if_neg h16] at h2
    rw [parseP_err h2, if_pos (by omega), if_pos rfl, if_pos (show ((16 : Nat) : Int) = 16 from rfl), if_pos (show ((([] : List ByteArray).length : Nat) : Int) = 0 from rfl), lives_ok n (by omega), Option.bind_some]
theorem together_pure (a b : ByteArray) (ha : a.size ≤ 140737488351232) (hb : b.size ≤ 140737488351232) : ∃ k, slabvaultlaw17_PathTogether.f k a b = some true := by
  obtain ⟨n, hn⟩ : ∃ n : Nat, 5000 ≤ n := ⟨5000, Nat.le_refl _⟩
  refine ⟨n + 1, ?_⟩
  have hj := fun k l => together_big a b k l n (by omega)
  unfold slabvaultlaw17_PathTogether.f path_Parse.f
  simp only [Option.bind_some]
  cases hfa : parseF a with
  | error p =>
    obtain ⟨x, y⟩ := p
    rw [parseP_err hfa]
    have := parseF_err a x y hfa
    simp only
    rw [if_neg (by omega)]
    exact hj _ _
  | ok k =>
    rw [parseP_ok hfa]
    simp only [if_true]
    cases hfb : parseF b with
    | error p =>
      obtain ⟨x, y⟩ := p
      rw [parseP_err hfb]
      have := parseF_err b x y hfb
      simp only
      rw [if_neg (by omega)]
      exact hj _ _
    | ok l =>
      rw [parseP_ok hfb]
      simp only [if_true]
      have hw : wrap64 ((a.size : Int) + (b.size : Int)) = (a.size : Int) + (b.size : Int) := by unfold wrap64; omega
      rw [hw]
      by_cases hs : a.size + b.size ≤ 1024
      · rw [show decide ((a.size : Int) + (b.size : Int) > 1024) = false from decide_eq_false (by omega)]
        exact together_small a b k l n hn hfa hfb hs
      · rw [show decide ((a.size : Int) + (b.size : Int) > 1024) = true from decide_eq_true (by omega)]
        exact hj _ _
end Go.Proofs.YtbmginkdlcpnpaaDoor.Wk
end
