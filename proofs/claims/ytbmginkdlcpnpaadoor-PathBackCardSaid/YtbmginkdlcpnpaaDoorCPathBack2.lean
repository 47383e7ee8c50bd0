-- Texts that the row PathBack leans on, joined by wip/tools/mkclaim.py: Wk50, Wk51, Wk54, Wk56, Wk57, Plain17c
import Derived.Test.YtbmginkdlcpnpaaDoorCPathBack1
section
namespace Go.Proofs.YtbmginkdlcpnpaaDoor.Wk
open Go.RowKit Go.Proofs.YtbmginkdlcpnpaaDoorW.PrintWords Go.Proofs.YtbmginkdlcpnpaaDoorW.PrintLast Go.Proofs.YtbmginkdlcpnpaaDoorW.PrintMore
attribute [local go_sem] max2_int min2_int max_two min_two max_three min_three max_four min_four
set_option linter.unusedVariables false
set_option linter.unusedSimpArgs false
def slabvaultlaw17_PathBack.j0 : Nat → ByteArray → Option (Bool)
  | 0, _ => none
  | k + 1, x1 => (path_Parse.f x1).bind fun bt184 => (if bt184.2.2 = 0 then ((path_Join.f bt184.1).bind fun bt190 => ((path_Parse.f bt190.1).bind fun bt193 => (if bt190.2.2 = 0 then (if bt193.2.2 = 0 then ((slabvaultlaw17_texts.f k bt193.1 bt184.1).bind fun t198 => (if t198 = true then (if (bt190.1.size : Int) ≤ (x1.size : Int) then ((slabvaultlaw17_lives.f k).bind fun t199 => (some t199)) else (none)) else (none))) else (none)) else (none)))) else (if (bt184.1.length : Int) = 0 then ((slabvaultlaw17_lives.f k).bind fun t189 => (some t189)) else (none)))
def slabvaultlaw17_PathBack.f (k : Nat) (l0 : List ByteArray) (a1 : ByteArray) : Option (Bool) := (path_Join.f l0).bind fun bt175 => (if bt175.2.2 = 0 then ((path_Parse.f bt175.1).bind fun bt178 => (if bt178.2.2 = 0 then (if bt178.2.1 = 0 then ((slabvaultlaw17_texts.f k bt178.1 l0).bind fun t183 => (if t183 = true then (slabvaultlaw17_PathBack.j0 k a1) else (none))) else (none)) else (none))) else (slabvaultlaw17_PathBack.j0 k a1))
set_option maxHeartbeats 8000000 in
set_option maxRecDepth 100000 in
theorem slabvaultlaw17_PathBack.calls (k : Nat) (A0 : Option Addr) (c0 : Nat) (l0 : List ByteArray) (a1 : ByteArray) (r : Bool) (w : World) (hr0 : Kd.C Kd.string w A0 l0.length l0) (hc0 : l0.length ≤ c0) (hlay_ : Lay w) (h : slabvaultlaw17_PathBack.f k l0 a1 = some r) :
    Calls Tryd.prog 6 #[.slice A0 l0.length c0, .string a1] w fun e w' => e = .returned (.bool r) ∧ Below w.heap.size w w' := by
  have HLAY_ := Aside0.mk hlay_
  clear hlay_
  have HR0 := Aside0.mk hr0
  have HC0 := Aside0.mk hc0
  clear hr0 hc0
  have HB := Aside0.mk (Below.refl w.heap.size w)
  have H : ((path_Join.f l0).bind fun bt175 => (if bt175.2.2 = 0 then ((path_Parse.f bt175.1).bind fun bt178 => (if bt178.2.2 = 0 then (if bt178.2.1 = 0 then ((slabvaultlaw17_texts.f k bt178.1 l0).bind fun t183 => (if t183 = true then (slabvaultlaw17_PathBack.j0 k a1) else (none))) else (none)) else (none))) else (slabvaultlaw17_PathBack.j0 k a1))) = some r := h
  clear h
  replace H := Option.bind_eq_some_iff.mp H
  obtain ⟨⟨t175, t176, t177⟩, A30, H⟩ := H
  replace H : (if t177 = 0 then ((path_Parse.f t175).bind fun bt178 => (if bt178.2.2 = 0 then (if bt178.2.1 = 0 then ((slabvaultlaw17_texts.f k bt178.1 l0).bind fun t183 => (if t183 = true then (slabvaultlaw17_PathBack.j0 k a1) else (none))) else (none)) else (none))) else (slabvaultlaw17_PathBack.j0 k a1)) = some r := H
  have A3 := Aside0.mk A30
  clear A30
  have HC4 := Aside0.mk H
  clear H
  go_enter Tryd.func6, Tryd.ntmps6
  go_upto_if 27 with (first | ((with_reducible refine gate_callee (f := 16) rfl ?_); refine goesL_ (some 22) rfl rfl Tryd.func16 (by kernel_rfl) rfl #[.slice A0 l0.length c0] rfl (by (try simp only [List.map_toArray, List.map_cons, List.map_nil]); first | done | rfl | (simp only [List.length_drop, List.length_take]; rfl)) ?_; (with_reducible refine (path_Join.calls _ _ l0 t175 t176 t177 _ ?side1 ?side2 (lay_below HLAY_.out (by repeat (first | (with_reducible first | exact HB.out | apply below_alloc | apply pw_below_drewN | apply below_drew1) | exact HB.out))) A3.out).mono ?_); (case side1 => repeat (first | exact HR0.out | (with_reducible refine Kd.C_alloc ?_ _) | (with_reducible refine Kd.C_drewN ?_ _) | (with_reducible refine Kd.C_drew ?_))); (case side2 => exact HC0.out); rintro e w5 ⟨rfl, hb⟩; refine ⟨_, rfl, ?_⟩; have n0_ := Aside0.mk (below_step (by repeat (first | (with_reducible first | exact HB.out | apply below_alloc | apply pw_below_drewN | apply below_drew1) | exact HB.out)) hb); clear HB; have HB := n0_; clear n0_; (try clear hb); (try clear hb2); (try clear hk); (try clear hi)))
  (try simp only [Act.put, List.setIfInBounds_toArray, List.set_cons_zero, List.set_cons_succ])
  go_cut [] (fun wc => ∃ (kq : Nat), Aside0 (slabvaultlaw17_PathBack.j0 kq a1 = some r) ∧ Aside0 (kq ≤ k) ∧ Aside0 (Below w.heap.size w wc))
  case first =>
    have H := HC4.out
    clear HC4
    by_cases c6 : t177 = 0
    · rw [if_pos c6] at H
      have c6b0 : (t177 == 0) = true := beq_iff_eq.mpr c6
      have c6b1 : (t177 != 0) = false := bne_eq_false_iff_eq.mpr c6
      clear c6
      (first | rw [c6b0] | (simp only [i64_w, i32_w]; rw [c6b0]) | skip)
      replace H := Option.bind_eq_some_iff.mp H
      obtain ⟨⟨t178, t179, t180⟩, A70, H⟩ := H
      replace H : (if t180 = 0 then (if t179 = 0 then ((slabvaultlaw17_texts.f k t178 l0).bind fun t183 => (if t183 = true then (slabvaultlaw17_PathBack.j0 k a1) else (none))) else (none)) else (none)) = some r := H
      have A7 := Aside0.mk A70
      clear A70
      by_cases c8 : t180 = 0
      · rw [if_pos c8] at H
        have c8b0 : (t180 == 0) = true := beq_iff_eq.mpr c8
        have c8b1 : (t180 != 0) = false := bne_eq_false_iff_eq.mpr c8
        clear c8
        by_cases c9 : t179 = 0
        · rw [if_pos c9] at H
          have c9b0 : (t179 == 0) = true := beq_iff_eq.mpr c9
          have c9b1 : (t179 != 0) = false := bne_eq_false_iff_eq.mpr c9
          clear c9
          replace H := Option.bind_eq_some_iff.mp H
          obtain ⟨t183, A100, H⟩ := H
          replace H : (if t183 = true then (slabvaultlaw17_PathBack.j0 k a1) else (none)) = some r := H
          have A10 := Aside0.mk A100
          clear A100
          by_cases c11 : t183 = true
          · subst c11
            have H1 : (slabvaultlaw17_PathBack.j0 k a1) = some r := by rw [if_pos rfl] at H; exact H
            clear H
            have H := H1
            clear H1
            have H' := Aside0.mk H
            clear H
            go_wp2_with (first | ((with_reducible refine gate_callee (f := 13) rfl ?_); refine goesL_ (some 30) rfl rfl Tryd.func13 (by kernel_rfl) rfl #[.string t175] rfl (by (try simp only [List.map_toArray, List.map_cons, List.map_nil]); first | done | rfl | (simp only [List.length_drop, List.length_take]; rfl)) ?_; (with_reducible refine (path_Parse.calls t175 t178 t179 t180 _ (lay_below HLAY_.out (by repeat (first | (with_reducible first | exact HB.out | apply below_alloc | apply pw_below_drewN | apply below_drew1) | exact HB.out))) A7.out).mono ?_); rintro e w12 ⟨v181, rfl, ho0, hb⟩; refine ⟨_, rfl, ?_⟩; have n0_ := Aside0.mk (Kd.R_lower ho0 (below_size (by repeat (first | (with_reducible first | exact HB.out | apply below_alloc | apply pw_below_drewN | apply below_drew1) | exact HB.out)))); have n1_ := Aside0.mk (below_step (by repeat (first | (with_reducible first | exact HB.out | apply below_alloc | apply pw_below_drewN | apply below_drew1) | exact HB.out)) hb); clear HB; have HO182 := n0_; have HB := n1_; clear n0_ n1_; (try clear hb); (try clear hb2); (try clear hk); (try clear hi); (try clear ho0); obtain ⟨Ao13, co13, eo13⟩ := Kd.R_slice HO182.out; subst eo13) | (go_at_call 15; (with_reducible refine (slabvaultlaw17_texts.calls k _ _ t178 _ _ l0 true _ ?side1 ?side2 ?side3 ?side4 A10.out).mono ?_); (case side1 => repeat (first | exact (Kd.R_reads' HO182.out).2.2 | (with_reducible refine Kd.C_alloc ?_ _) | (with_reducible refine Kd.C_drewN ?_ _) | (with_reducible refine Kd.C_drew ?_))); (case side2 => exact (Kd.R_reads' HO182.out).2.1); (case side3 => repeat (first | exact (Kd.C_below HR0.out HB.out) | (with_reducible refine Kd.C_alloc ?_ _) | (with_reducible refine Kd.C_drewN ?_ _) | (with_reducible refine Kd.C_drew ?_))); (case side4 => exact HC0.out); rintro e w' ⟨rfl, ⟨nd, rfl⟩⟩))
            go_meet
            case rel => exact ⟨_, H', ⟨by first | omega | exact Nat.le_refl _⟩, ⟨by repeat (first | (with_reducible first | exact HB.out | apply below_alloc | apply pw_below_drewN | apply below_drew1) | exact HB.out)⟩⟩
          · replace c11 := Bool.eq_false_iff.mpr c11
            subst c11
            have H1 : (none) = some r := by rw [if_neg (show ¬ (false = true) by decide)] at H; exact H
            clear H
            have H := H1
            clear H1
            exact absurd H (by simp)
        · rw [if_neg c9] at H
          exact absurd H (by simp)
      · rw [if_neg c8] at H
        exact absurd H (by simp)
    · rw [if_neg c6] at H
      have c6b0 : (t177 == 0) = false := beq_eq_false_iff_ne.mpr c6
      have c6b1 : (t177 != 0) = true := bne_iff_ne.mpr c6
      (first | rw [c6b0] | (simp only [i64_w, i32_w]; rw [c6b0]) | skip)
      have H' := Aside0.mk H
      clear H
      go_wp2
      go_meet
      case rel => exact ⟨_, H', ⟨by first | omega | exact Nat.le_refl _⟩, ⟨by repeat (first | (with_reducible first | exact HB.out | apply below_alloc | apply pw_below_drewN | apply below_drew1) | exact HB.out)⟩⟩
  case rest =>
    clear HC4
    try clear c1
    try clear p2
    try clear c6
    try clear c6b0
    try clear c6b1
    try clear c8
    try clear c8b0
    try clear c8b1
    try clear c9
    try clear c9b0
    try clear c9b1
    try clear c11
    try clear c13
    obtain ⟨kq, HA, HJ3, HB⟩ := hcut
    cases kq with
    | zero => exact absurd HA.out (by simp [slabvaultlaw17_PathBack.j0])
    | succ kj3 =>
      have H := HA.out
      clear HA
      simp only [slabvaultlaw17_PathBack.j0] at H
      replace H := Option.bind_eq_some_iff.mp H
      obtain ⟨⟨t184, t185, t186⟩, A140, H⟩ := H
      replace H : (if t186 = 0 then ((path_Join.f t184).bind fun bt190 => ((path_Parse.f bt190.1).bind fun bt193 => (if bt190.2.2 = 0 then (if bt193.2.2 = 0 then ((slabvaultlaw17_texts.f kj3 bt193.1 t184).bind fun t198 => (if t198 = true then (if (bt190.1.size : Int) ≤ (a1.size : Int) then ((slabvaultlaw17_lives.f kj3).bind fun t199 => (some t199)) else (none)) else (none))) else (none)) else (none)))) else (if (t184.length : Int) = 0 then ((slabvaultlaw17_lives.f kj3).bind fun t189 => (some t189)) else (none))) = some r := H
      have A14 := Aside0.mk A140
      clear A140
      by_cases c15 : t186 = 0
      · rw [if_pos c15] at H
        have c15b0 : (t186 == 0) = true := beq_iff_eq.mpr c15
        have c15b1 : (t186 != 0) = false := bne_eq_false_iff_eq.mpr c15
        clear c15
        replace H := Option.bind_eq_some_iff.mp H
        obtain ⟨⟨t190, t191, t192⟩, A160, H⟩ := H
        replace H : ((path_Parse.f t190).bind fun bt193 => (if t192 = 0 then (if bt193.2.2 = 0 then ((slabvaultlaw17_texts.f kj3 bt193.1 t184).bind fun t198 => (if t198 = true then (if (t190.size : Int) ≤ (a1.size : Int) then ((slabvaultlaw17_lives.f kj3).bind fun t199 => (some t199)) else (none)) else (none))) else (none)) else (none))) = some r := H
        have A16 := Aside0.mk A160
        clear A160
        replace H := Option.bind_eq_some_iff.mp H
        obtain ⟨⟨t193, t194, t195⟩, A170, H⟩ := H
        replace H : (if t192 = 0 then (if t195 = 0 then ((slabvaultlaw17_texts.f kj3 t193 t184).bind fun t198 => (if t198 = true then (if (t190.size : Int) ≤ (a1.size : Int) then ((slabvaultlaw17_lives.f kj3).bind fun t199 => (some t199)) else (none)) else (none))) else (none)) else (none)) = some r := H
        have A17 := Aside0.mk A170
        clear A170
        by_cases c18 : t192 = 0
        · rw [if_pos c18] at H
          have c18b0 : (t192 == 0) = true := beq_iff_eq.mpr c18
          have c18b1 : (t192 != 0) = false := bne_eq_false_iff_eq.mpr c18
          clear c18
          by_cases c19 : t195 = 0
          · rw [if_pos c19] at H
            have c19b0 : (t195 == 0) = true := beq_iff_eq.mpr c19
            have c19b1 : (t195 != 0) = false := bne_eq_false_iff_eq.mpr c19
            clear c19
            replace H := Option.bind_eq_some_iff.mp H
            obtain ⟨t198, A200, H⟩ := H
            replace H : (if t198 = true then (if (t190.size : Int) ≤ (a1.size : Int) then ((slabvaultlaw17_lives.f kj3).bind fun t199 => (some t199)) else (none)) else (none)) = some r := H
            have A20 := Aside0.mk A200
            clear A200
            by_cases c21 : t198 = true
            · subst c21
              have H1 : (if (t190.size : Int) ≤ (a1.size : Int) then ((slabvaultlaw17_lives.f kj3).bind fun t199 => (some t199)) else (none)) = some r := by rw [if_pos rfl] at H; exact H
              clear H
              have H := H1
              clear H1
              by_cases c22 : (t190.size : Int) ≤ (a1.size : Int)
              · rw [if_pos c22] at H
                have c22b0 : decide ((t190.size : Int) ≤ (a1.size : Int)) = true := decide_eq_true c22
                have c22b1 : decide (t190.size ≤ a1.size) = true := decide_eq_true (Int.ofNat_le.mp c22)
                clear c22
                replace H := Option.bind_eq_some_iff.mp H
                obtain ⟨t199, A230, H⟩ := H
                replace H : (some t199) = some r := H
                have A23 := Aside0.mk A230
                clear A230
                obtain rfl := Option.some.inj H
                go_wp2_with (first | ((with_reducible refine gate_callee (f := 13) rfl ?_); refine goesL_ (some 48) rfl rfl Tryd.func13 (by kernel_rfl) rfl #[.string a1] rfl (by (try simp only [List.map_toArray, List.map_cons, List.map_nil]); first | done | rfl | (simp only [List.length_drop, List.length_take]; rfl)) ?_; (with_reducible refine (path_Parse.calls a1 t184 t185 t186 _ (lay_below HLAY_.out (by repeat (first | (with_reducible first | exact HB.out | apply below_alloc | apply pw_below_drewN | apply below_drew1) | exact HB.out))) A14.out).mono ?_); rintro e w24 ⟨v187, rfl, ho0, hb⟩; refine ⟨_, rfl, ?_⟩; have n0_ := Aside0.mk (Kd.R_lower ho0 (below_size (by repeat (first | (with_reducible first | exact HB.out | apply below_alloc | apply pw_below_drewN | apply below_drew1) | exact HB.out)))); have n1_ := Aside0.mk (below_step (by repeat (first | (with_reducible first | exact HB.out | apply below_alloc | apply pw_below_drewN | apply below_drew1) | exact HB.out)) hb); clear HB; have HO188 := n0_; have HB := n1_; clear n0_ n1_; (try clear hb); (try clear hb2); (try clear hk); (try clear hi); (try clear ho0); obtain ⟨Ao25, co25, eo25⟩ := Kd.R_slice HO188.out; subst eo25) | ((with_reducible refine gate_callee (f := 16) rfl ?_); refine goesL_ (some 62) rfl rfl Tryd.func16 (by kernel_rfl) rfl #[.slice Ao25 t184.length co25] rfl (by (try simp only [List.map_toArray, List.map_cons, List.map_nil]); first | done | rfl | (simp only [List.length_drop, List.length_take]; rfl)) ?_; (with_reducible refine (path_Join.calls _ _ t184 t190 t191 t192 _ ?side1 ?side2 (lay_below HLAY_.out (by repeat (first | (with_reducible first | exact HB.out | apply below_alloc | apply pw_below_drewN | apply below_drew1) | exact HB.out))) A16.out).mono ?_); (case side1 => repeat (first | exact (Kd.R_reads' HO188.out).2.2 | (with_reducible refine Kd.C_alloc ?_ _) | (with_reducible refine Kd.C_drewN ?_ _) | (with_reducible refine Kd.C_drew ?_))); (case side2 => exact (Kd.R_reads' HO188.out).2.1); rintro e w26 ⟨rfl, hb⟩; refine ⟨_, rfl, ?_⟩; have n0_ := Aside0.mk (Kd.R_below (by (with_reducible repeat (first | apply Kd.R_alloc | apply Kd.R_drewN | apply Kd.R_drew)); exact HO188.out) hb); have n1_ := Aside0.mk (below_step (by repeat (first | (with_reducible first | exact HB.out | apply below_alloc | apply pw_below_drewN | apply below_drew1) | exact HB.out)) hb); clear HO188; clear HB; have HO188 := n0_; have HB := n1_; clear n0_ n1_; (try clear hb); (try clear hb2); (try clear hk); (try clear hi)) | ((with_reducible refine gate_callee (f := 13) rfl ?_); refine goesL_ (some 68) rfl rfl Tryd.func13 (by kernel_rfl) rfl #[.string t190] rfl (by (try simp only [List.map_toArray, List.map_cons, List.map_nil]); first | done | rfl | (simp only [List.length_drop, List.length_take]; rfl)) ?_; (with_reducible refine (path_Parse.calls t190 t193 t194 t195 _ (lay_below HLAY_.out (by repeat (first | (with_reducible first | exact HB.out | apply below_alloc | apply pw_below_drewN | apply below_drew1) | exact HB.out))) A17.out).mono ?_); rintro e w27 ⟨v196, rfl, ho0, hb⟩; refine ⟨_, rfl, ?_⟩; have n0_ := Aside0.mk (Kd.R_elder' (by (with_reducible repeat (first | apply Kd.R_alloc | apply Kd.R_drewN | apply Kd.R_drew)); exact HO188.out) (Kd.R_base ho0) hb); have n1_ := Aside0.mk (Kd.R_lower (Kd.R_new' ho0 (Kd.R_lt (by (with_reducible repeat (first | apply Kd.R_alloc | apply Kd.R_drewN | apply Kd.R_drew)); exact HO188.out))) (below_size (by repeat (first | (with_reducible first | exact HB.out | apply below_alloc | apply pw_below_drewN | apply below_drew1) | exact HB.out)))); have n2_ := Aside0.mk (below_step (by repeat (first | (with_reducible first | exact HB.out | apply below_alloc | apply pw_below_drewN | apply below_drew1) | exact HB.out)) hb); clear HO188; clear HB; have HO188 := n0_; have HO197 := n1_; have HB := n2_; clear n0_ n1_ n2_; (try clear hb); (try clear hb2); (try clear hk); (try clear hi); (try clear ho0); obtain ⟨Ao28, co28, eo28⟩ := Kd.R_slice HO197.out; subst eo28) | (go_at_call 15; (with_reducible refine (slabvaultlaw17_texts.calls kj3 _ _ t193 _ _ t184 true _ ?side1 ?side2 ?side3 ?side4 A20.out).mono ?_); (case side1 => repeat (first | exact (Kd.R_reads' HO197.out).2.2 | (with_reducible refine Kd.C_alloc ?_ _) | (with_reducible refine Kd.C_drewN ?_ _) | (with_reducible refine Kd.C_drew ?_))); (case side2 => exact (Kd.R_reads' HO197.out).2.1); (case side3 => repeat (first | exact (Kd.R_reads' HO188.out).2.2 | (with_reducible refine Kd.C_alloc ?_ _) | (with_reducible refine Kd.C_drewN ?_ _) | (with_reducible refine Kd.C_drew ?_))); (case side4 => exact (Kd.R_reads' HO188.out).2.1); rintro e w' ⟨rfl, ⟨nd, rfl⟩⟩) | (go_at_call 12; (with_reducible refine (slabvaultlaw17_lives.calls kj3  t199 _ (lay_below HLAY_.out (by repeat (first | (with_reducible first | exact HB.out | apply below_alloc | apply pw_below_drewN | apply below_drew1) | exact HB.out))) A23.out).mono ?_); rintro e w29 ⟨rfl, hb⟩; have n0_ := Aside0.mk (Kd.R_below (by (with_reducible repeat (first | apply Kd.R_alloc | apply Kd.R_drewN | apply Kd.R_drew)); exact HO188.out) hb); have n1_ := Aside0.mk (Kd.R_below (by (with_reducible repeat (first | apply Kd.R_alloc | apply Kd.R_drewN | apply Kd.R_drew)); exact HO197.out) hb); have n2_ := Aside0.mk (below_step (by repeat (first | (with_reducible first | exact HB.out | apply below_alloc | apply pw_below_drewN | apply below_drew1) | exact HB.out)) hb); clear HO188; clear HO197; clear HB; have HO188 := n0_; have HO197 := n1_; have HB := n2_; clear n0_ n1_ n2_; (try clear hb); (try clear hb2); (try clear hk); (try clear hi)))
                go_ret
                exact ⟨by first | rfl | (simp [errW_none, errW_some] <;> rfl) | (simp [*, errW_none, errW_some] <;> rfl), by repeat (first | (with_reducible first | exact HB.out | apply below_alloc | apply pw_below_drewN | apply below_drew1) | exact HB.out)⟩
              · rw [if_neg c22] at H
                exact absurd H (by simp)
            · replace c21 := Bool.eq_false_iff.mpr c21
              subst c21
              have H1 : (none) = some r := by rw [if_neg (show ¬ (false = true) by decide)] at H; exact H
              clear H
              have H := H1
              clear H1
              exact absurd H (by simp)
          · rw [if_neg c19] at H
            exact absurd H (by simp)
        · rw [if_neg c18] at H
          exact absurd H (by simp)
      · rw [if_neg c15] at H
        have c15b0 : (t186 == 0) = false := beq_eq_false_iff_ne.mpr c15
        have c15b1 : (t186 != 0) = true := bne_iff_ne.mpr c15
        by_cases c30 : (t184.length : Int) = 0
        · rw [if_pos c30] at H
          have c30b0 : ((t184.length : Int) == 0) = true := beq_iff_eq.mpr c30
          have c30b1 : ((t184.length : Int) != 0) = false := bne_eq_false_iff_eq.mpr c30
          clear c30
          replace H := Option.bind_eq_some_iff.mp H
          obtain ⟨t189, A310, H⟩ := H
          replace H : (some t189) = some r := H
          have A31 := Aside0.mk A310
          clear A310
          obtain rfl := Option.some.inj H
          go_wp2_with (first | ((with_reducible refine gate_callee (f := 13) rfl ?_); refine goesL_ (some 48) rfl rfl Tryd.func13 (by kernel_rfl) rfl #[.string a1] rfl (by (try simp only [List.map_toArray, List.map_cons, List.map_nil]); first | done | rfl | (simp only [List.length_drop, List.length_take]; rfl)) ?_; (with_reducible refine (path_Parse.calls a1 t184 t185 t186 _ (lay_below HLAY_.out (by repeat (first | (with_reducible first | exact HB.out | apply below_alloc | apply pw_below_drewN | apply below_drew1) | exact HB.out))) A14.out).mono ?_); rintro e w32 ⟨v187, rfl, ho0, hb⟩; refine ⟨_, rfl, ?_⟩; have n0_ := Aside0.mk (Kd.R_lower ho0 (below_size (by repeat (first | (with_reducible first | exact HB.out | apply below_alloc | apply pw_below_drewN | apply below_drew1) | exact HB.out)))); have n1_ := Aside0.mk (below_step (by repeat (first | (with_reducible first | exact HB.out | apply below_alloc | apply pw_below_drewN | apply below_drew1) | exact HB.out)) hb); clear HB; have HO188 := n0_; have HB := n1_; clear n0_ n1_; (try clear hb); (try clear hb2); (try clear hk); (try clear hi); (try clear ho0); obtain ⟨Ao33, co33, eo33⟩ := Kd.R_slice HO188.out; subst eo33) | (go_at_call 12; (with_reducible refine (slabvaultlaw17_lives.calls kj3  t189 _ (lay_below HLAY_.out (by repeat (first | (with_reducible first | exact HB.out | apply below_alloc | apply pw_below_drewN | apply below_drew1) | exact HB.out))) A31.out).mono ?_); rintro e w34 ⟨rfl, hb⟩; have n0_ := Aside0.mk (Kd.R_below (by (with_reducible repeat (first | apply Kd.R_alloc | apply Kd.R_drewN | apply Kd.R_drew)); exact HO188.out) hb); have n1_ := Aside0.mk (below_step (by repeat (first | (with_reducible first | exact HB.out | apply below_alloc | apply pw_below_drewN | apply below_drew1) | exact HB.out)) hb); clear HO188; clear HB; have HO188 := n0_; have HB := n1_; clear n0_ n1_; (try clear hb); (try clear hb2); (try clear hk); (try clear hi)))
          go_ret
          exact ⟨by first | rfl | (simp [errW_none, errW_some] <;> rfl) | (simp [*, errW_none, errW_some] <;> rfl), by repeat (first | (with_reducible first | exact HB.out | apply below_alloc | apply pw_below_drewN | apply below_drew1) | exact HB.out)⟩
        · rw [if_neg c30] at H
          exact absurd H (by simp)
end Go.Proofs.YtbmginkdlcpnpaaDoor.Wk
end
section
namespace Go.Proofs.YtbmginkdlcpnpaaDoor.Wk
open Go.RowKit Go.Proofs.YtbmginkdlcpnpaaDoorW.PrintWords Go.Proofs.YtbmginkdlcpnpaaDoorW.PrintLast Go.Proofs.YtbmginkdlcpnpaaDoorW.PrintMore
attribute [local go_sem] max2_int min2_int max_two min_two max_three min_three max_four min_four
set_option linter.unusedVariables false
set_option linter.unusedSimpArgs false
def slabvaultlaw17_PathTogether.j0 : Nat → ByteArray → ByteArray → List ByteArray → List ByteArray → Bool → Option (Bool)
  | 0, _, _, _, _, _ => none
  | k + 1, x0, x1, x5, x8, x39 => if x39 = true then ((slabvaultlaw17_lives.f k).bind fun t210 => (some t210)) else (if x0.size + x1.size ≤ 9223372036854775807 then ((path_Parse.f (x0 ++ x1)).bind fun bt211 => (if (wrap64 ((x5.length : Int) + (x8.length : Int))) > 16 then (if bt211.2.2 = 3 then (if bt211.2.1 = 16 then (if (bt211.1.length : Int) = 0 then ((slabvaultlaw17_lives.f k).bind fun t216 => (some t216)) else (none)) else (none)) else (none)) else (if bt211.2.2 = 0 then ((some (([] : List ByteArray) : List ByteArray)).bind fun y217 => (if y217.length + x5.length < 8796093022208 then ((some (y217 ++ x5 : List ByteArray)).bind fun y220 => (if y220.length + x8.length < 8796093022208 then ((slabvaultlaw17_texts.f k bt211.1 (y220 ++ x8)).bind fun t226 => (if t226 = true then ((slabvaultlaw17_lives.f k).bind fun t227 => (some t227)) else (none))) else (none))) else (none))) else (none)))) else (none))
def slabvaultlaw17_PathTogether.f (k : Nat) (a0 : ByteArray) (a1 : ByteArray) : Option (Bool) := (path_Parse.f a0).bind fun bt200 => ((path_Parse.f a1).bind fun bt205 => (if bt200.2.2 = 0 then (if bt205.2.2 = 0 then (slabvaultlaw17_PathTogether.j0 k a0 a1 bt200.1 bt205.1 (decide ((wrap64 ((a0.size : Int) + (a1.size : Int))) > 1024))) else (slabvaultlaw17_PathTogether.j0 k a0 a1 bt200.1 bt205.1 true)) else (slabvaultlaw17_PathTogether.j0 k a0 a1 bt200.1 bt205.1 true)))
def slabvaultlaw17_PathTogether.Pure : Prop := ∀ (a0 : ByteArray) (a1 : ByteArray), a0.size ≤ 140737488351232 → a1.size ≤ 140737488351232 → ∃ k, slabvaultlaw17_PathTogether.f k a0 a1 = some true
end Go.Proofs.YtbmginkdlcpnpaaDoor.Wk
end
section
namespace Go.Proofs.YtbmginkdlcpnpaaDoor.Wk
open Go.RowKit Go.Proofs.YtbmginkdlcpnpaaDoorW.PrintWords Go.Proofs.YtbmginkdlcpnpaaDoorW.PrintLast Go.Proofs.YtbmginkdlcpnpaaDoorW.PrintMore
attribute [local go_sem] max2_int min2_int max_two min_two max_three min_three max_four min_four
set_option linter.unusedVariables false
set_option linter.unusedSimpArgs false
def path_Split.f (a0 : ByteArray) : Option (ByteArray × ByteArray × Int × Int) := some (splitP a0)
end Go.Proofs.YtbmginkdlcpnpaaDoor.Wk
end
section
namespace Go.Proofs.YtbmginkdlcpnpaaDoor.Wk
open Go.RowKit Go.Proofs.YtbmginkdlcpnpaaDoorW.PrintWords Go.Proofs.YtbmginkdlcpnpaaDoorW.PrintLast Go.Proofs.YtbmginkdlcpnpaaDoorW.PrintMore
attribute [local go_sem] max2_int min2_int max_two min_two max_three min_three max_four min_four
set_option linter.unusedVariables false
set_option linter.unusedSimpArgs false
def slabvaultlaw17_PathSplits.f (k : Nat) (a0 : ByteArray) : Option (Bool) := (path_Split.f a0).bind fun bt243 => ((slabvaultref17_Split.f k a0).bind fun bt247 => (if bt243.1.toList = bt247.1.toList then (if bt243.2.1.toList = bt247.2.1.toList then (if bt243.2.2.1 = bt247.2.2.1 then (if bt243.2.2.2 = bt247.2.2.2 then ((slabvaultlaw17_lives.f k).bind fun t251 => (some t251)) else (none)) else (none)) else (none)) else (none)))
def slabvaultlaw17_PathSplits.Pure : Prop := ∀ (a0 : ByteArray), a0.size ≤ 140737488351232 → ∃ k, slabvaultlaw17_PathSplits.f k a0 = some true
end Go.Proofs.YtbmginkdlcpnpaaDoor.Wk
end
section
namespace Go.Proofs.YtbmginkdlcpnpaaDoor.Wk
open Go.RowKit Go.Proofs.YtbmginkdlcpnpaaDoorW.PrintWords Go.Proofs.YtbmginkdlcpnpaaDoorW.PrintLast Go.Proofs.YtbmginkdlcpnpaaDoorW.PrintMore
attribute [local go_sem] max2_int min2_int max_two min_two max_three min_three max_four min_four
set_option linter.unusedVariables false
set_option linter.unusedSimpArgs false
def slabvaultlaw17_PathLast.f (k : Nat) (a0 : ByteArray) : Option (Bool) := (path_Parse.f a0).bind fun bt252 => ((path_Split.f a0).bind fun bt257 => (if bt252.2.2 = 0 then (if (bt252.1.length : Int) = 0 then (if bt257.2.2.2 = 11 then (if bt257.1.toList = ([] : List UInt8) then (if bt257.2.1.toList = ([] : List UInt8) then (if bt257.2.2.1 = 0 then ((slabvaultlaw17_lives.f k).bind fun t262 => (some t262)) else (none)) else (none)) else (none)) else (none)) else ((path_Parse.f bt257.1).bind fun bt263 => (if bt257.2.2.2 = 0 then (if bt263.2.2 = 0 then (if 0 ≤ (wrap64 ((bt252.1.length : Int) - 1)) then (if (wrap64 ((bt252.1.length : Int) - 1)) < (bt252.1.length : Int) then (if bt257.2.1.toList = (rdOf ByteArray.empty bt252.1 (wrap64 ((bt252.1.length : Int) - 1))).toList then (if (wrap64 ((bt252.1.length : Int) - 1)) ≤ (bt252.1.length : Int) then ((slabvaultlaw17_texts.f k bt263.1 (bt252.1.take ((wrap64 ((bt252.1.length : Int) - 1)) : Int).toNat)).bind fun t273 => (if t273 = true then ((path_Name.f bt257.2.1).bind fun t274 => (if t274 = true then ((slabvaultlaw17_lives.f k).bind fun t275 => (some t275)) else (none))) else (none))) else (none)) else (none)) else (none)) else (none)) else (none)) else (none)))) else (if bt257.2.2.2 = bt252.2.2 then (if bt257.2.2.1 = bt252.2.1 then (if bt257.1.toList = ([] : List UInt8) then (if bt257.2.1.toList = ([] : List UInt8) then ((slabvaultlaw17_lives.f k).bind fun t261 => (some t261)) else (none)) else (none)) else (none)) else (none))))
def slabvaultlaw17_PathLast.Pure : Prop := ∀ (a0 : ByteArray), a0.size ≤ 140737488351232 → ∃ k, slabvaultlaw17_PathLast.f k a0 = some true
end Go.Proofs.YtbmginkdlcpnpaaDoor.Wk
end
section
namespace Go.Proofs.YtbmginkdlcpnpaaDoor.Wk
open Go.RowKit Go.Lib Go.Proofs.YtbmginkdlcpnpaaDoorW.PrintWords Go.Proofs.YtbmginkdlcpnpaaDoorW.PrintLast Go.Proofs.YtbmginkdlcpnpaaDoorW.PrintMore
set_option linter.unusedVariables false
theorem parseP_ok {s : ByteArray} {l : List ByteArray} (h : parseF s = .ok l) : parseP s = (l, 0, 0) := by unfold parseP; rw [h]
theorem parseP_err {s : ByteArray} {a : Nat} {y : Int} (h : parseF s = .error (a, y)) : parseP s = ([], (a : Int), y) := by unfold parseP; rw [h]
theorem joinP_ok {l : List ByteArray} {s : ByteArray} (h : joinF l = .ok s) : joinP l = (s, 0, 0) := by unfold joinP; rw [h]
theorem joinP_err {l : List ByteArray} {a : Nat} {y : Int} (h : joinF l = .error (a, y)) : joinP l = (⟨#[]⟩, (a : Int), y) := by unfold joinP; rw [h]
theorem join_err {l : List ByteArray} {a : Nat} {y : Int} (h : joinF l = .error (a, y)) : y = 3 ∨ y = 8 := by
  unfold joinF at h
  split at h
  · cases h; exact .inl rfl
  · split at h
    · cases h; exact .inr rfl
    · split at h
      · cases h; exact .inl rfl
      · cases h
theorem back_j (s : ByteArray) (k : Nat) (hk : 5000 ≤ k) : slabvaultlaw17_PathBack.j0 (k + 1) s = some true := by
  simp only [slabvaultlaw17_PathBack.j0, path_Parse.f, path_Join.f, Option.bind_some]
  cases hf : parseF s with
  | error p =>
    obtain ⟨a, y⟩ := p
    rw [parseP_err hf]
    have := parseF_err s a y hf
    simp only
    rw [if_neg (by omega), lives_ok k (by omega)]
    simp
  | ok l =>
    obtain ⟨hg, h16, hsl, hs⟩ := parse_facts hf
    have hj := join_of_good hg h16 (by omega)
    rw [parseP_ok hf]
    simp only [if_true]
    rw [joinP_ok hj, parseP_ok (parse_join hj)]
    simp only [if_true]
    rw [texts_refl l (by omega) k (by omega)]
    simp only [Option.bind_some, if_true]
    rw [if_pos (by rw [slashed_size]; omega), lives_ok k (by omega)]
    rfl
theorem back_pure (l : List ByteArray) (s : ByteArray) : ∃ k, slabvaultlaw17_PathBack.f k l s = some true := by
  refine ⟨5001, ?_⟩
  unfold slabvaultlaw17_PathBack.f path_Join.f path_Parse.f
  simp only [Option.bind_some]
  cases hj : joinF l with
  | error p =>
    obtain ⟨a, y⟩ := p
    rw [joinP_err hj]
    have := join_err hj
    simp only
    rw [if_neg (by omega)]
    exact back_j s 5000 (by omega)
  | ok x =>
    have hjo := join_ok hj
    rw [joinP_ok hj]
    simp only [if_true]
    rw [parseP_ok (parse_join hj)]
    simp only [if_true]
    rw [texts_refl l (by omega) 5001 (by omega)]
    simp only [Option.bind_some, if_true]
    exact back_j s 5000 (by omega)
end Go.Proofs.YtbmginkdlcpnpaaDoor.Wk
end
