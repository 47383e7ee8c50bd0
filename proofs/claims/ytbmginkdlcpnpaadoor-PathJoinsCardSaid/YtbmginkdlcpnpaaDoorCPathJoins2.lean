-- Texts that the row PathJoins leans on, joined by wip/tools/mkclaim.py: Wk44, Wk47, Wk49, Wk50, Wk51, Wk54, Wk56, Wk57, Plain17c
import Derived.Test.YtbmginkdlcpnpaaDoorCPathJoins1
section
namespace Go.Proofs.YtbmginkdlcpnpaaDoor.Wk
open Go.RowKit Go.Proofs.YtbmginkdlcpnpaaDoorW.PrintWords Go.Proofs.YtbmginkdlcpnpaaDoorW.PrintLast Go.Proofs.YtbmginkdlcpnpaaDoorW.PrintMore
attribute [local go_sem] max2_int min2_int max_two min_two max_three min_three max_four min_four
set_option linter.unusedVariables false
set_option linter.unusedSimpArgs false
def slabvaultlaw17_PathNames.f (k : Nat) (a0 : ByteArray) : Option (Bool) := (path_Name.f a0).bind fun t126 => ((slabvaultref09_Name.f k a0).bind fun t127 => (if (t126 == t127) = true then ((slabvaultlaw17_lives.f k).bind fun t128 => (some t128)) else (none)))
def slabvaultlaw17_PathNames.Pure : Prop := ∀ (a0 : ByteArray), a0.size ≤ 140737488351232 → ∃ k, slabvaultlaw17_PathNames.f k a0 = some true
end Go.Proofs.YtbmginkdlcpnpaaDoor.Wk
end
section
namespace Go.Proofs.YtbmginkdlcpnpaaDoor.Wk
open Go.RowKit Go.Proofs.YtbmginkdlcpnpaaDoorW.PrintWords Go.Proofs.YtbmginkdlcpnpaaDoorW.PrintLast Go.Proofs.YtbmginkdlcpnpaaDoorW.PrintMore
attribute [local go_sem] max2_int min2_int max_two min_two max_three min_three max_four min_four
set_option linter.unusedVariables false
set_option linter.unusedSimpArgs false
def slabvaultlaw17_PathParses.f (k : Nat) (a0 : ByteArray) : Option (Bool) := (path_Parse.f a0).bind fun bt146 => ((slabvaultref17_Parse.f k a0).bind fun bt151 => ((slabvaultlaw17_texts.f k bt146.1 bt151.1).bind fun t156 => (if t156 = true then (if bt146.2.1 = bt151.2.1 then (if bt146.2.2 = bt151.2.2 then ((slabvaultlaw17_lives.f k).bind fun t157 => (some t157)) else (none)) else (none)) else (none))))
def slabvaultlaw17_PathParses.Pure : Prop := ∀ (a0 : ByteArray), a0.size ≤ 140737488351232 → ∃ k, slabvaultlaw17_PathParses.f k a0 = some true
end Go.Proofs.YtbmginkdlcpnpaaDoor.Wk
end
section
namespace Go.Proofs.YtbmginkdlcpnpaaDoor.Wk
open Go.RowKit Go.Proofs.YtbmginkdlcpnpaaDoorW.PrintWords Go.Proofs.YtbmginkdlcpnpaaDoorW.PrintLast Go.Proofs.YtbmginkdlcpnpaaDoorW.PrintMore
attribute [local go_sem] max2_int min2_int max_two min_two max_three min_three max_four min_four
set_option linter.unusedVariables false
set_option linter.unusedSimpArgs false
def slabvaultlaw17_PathJoins.f (k : Nat) (l0 : List ByteArray) : Option (Bool) := (some (([] : List ByteArray) : List ByteArray)).bind fun y161 => (if y161.length + l0.length < 8796093022208 then ((some (y161 ++ l0 : List ByteArray)).bind fun y164 => ((path_Join.f y164).bind fun bt167 => ((slabvaultref17_Join.f k l0).bind fun bt170 => (if bt167.1.toList = bt170.1.toList then (if bt167.2.1 = bt170.2.1 then (if bt167.2.2 = bt170.2.2 then ((slabvaultlaw17_texts.f k y164 l0).bind fun t173 => (if t173 = true then ((slabvaultlaw17_lives.f k).bind fun t174 => (some t174)) else (none))) else (none)) else (none)) else (none))))) else (none))
set_option maxHeartbeats 8000000 in
set_option maxRecDepth 100000 in
theorem slabvaultlaw17_PathJoins.calls (k : Nat) (A0 : Option Addr) (c0 : Nat) (l0 : List ByteArray) (r : Bool) (w : World) (hr0 : Kd.C Kd.string w A0 l0.length l0) (hc0 : l0.length ≤ c0) (hlay_ : Lay w) (h : slabvaultlaw17_PathJoins.f k l0 = some r) :
    Calls Tryd.prog 5 #[.slice A0 l0.length c0] w fun e w' => e = .returned (.bool r) ∧ Below w.heap.size w w' := by
  have HLAY_ := Aside0.mk hlay_
  clear hlay_
  have HR0 := Aside0.mk hr0
  have HC0 := Aside0.mk hc0
  clear hr0 hc0
  have HB := Aside0.mk (Below.refl w.heap.size w)
  have H : ((some (([] : List ByteArray) : List ByteArray)).bind fun y161 => (if y161.length + l0.length < 8796093022208 then ((some (y161 ++ l0 : List ByteArray)).bind fun y164 => ((path_Join.f y164).bind fun bt167 => ((slabvaultref17_Join.f k l0).bind fun bt170 => (if bt167.1.toList = bt170.1.toList then (if bt167.2.1 = bt170.2.1 then (if bt167.2.2 = bt170.2.2 then ((slabvaultlaw17_texts.f k y164 l0).bind fun t173 => (if t173 = true then ((slabvaultlaw17_lives.f k).bind fun t174 => (some t174)) else (none))) else (none)) else (none)) else (none))))) else (none))) = some r := h
  clear h
  obtain ⟨y161, hy161⟩ : ∃ y_ : List ByteArray, y_ = (([] : List ByteArray)) := ⟨_, rfl⟩
  replace H : (if y161.length + l0.length < 8796093022208 then ((some (y161 ++ l0 : List ByteArray)).bind fun y164 => ((path_Join.f y164).bind fun bt167 => ((slabvaultref17_Join.f k l0).bind fun bt170 => (if bt167.1.toList = bt170.1.toList then (if bt167.2.1 = bt170.2.1 then (if bt167.2.2 = bt170.2.2 then ((slabvaultlaw17_texts.f k y164 l0).bind fun t173 => (if t173 = true then ((slabvaultlaw17_lives.f k).bind fun t174 => (some t174)) else (none))) else (none)) else (none)) else (none))))) else (none)) = some r := by first | (rw [hy161]; with_reducible exact H) | (have H2_ := (Option.bind_some _ _).symm.trans H; rw [hy161]; with_reducible exact H2_) | (have H2_ := (Option.bind_some _ _).symm.trans H; with_reducible exact H2_) | with_reducible exact H | (rw [hy161]; exact H) | exact H
  have Ny161 := Aside0.mk hy161
  clear hy161
  by_cases c2 : y161.length + l0.length < 8796093022208
  · rw [if_pos c2] at H
    have LMc2 := Aside0.mk c2
    clear c2
    obtain ⟨y164, hy164⟩ : ∃ y_ : List ByteArray, y_ = (y161 ++ l0) := ⟨_, rfl⟩
    replace H : ((path_Join.f y164).bind fun bt167 => ((slabvaultref17_Join.f k l0).bind fun bt170 => (if bt167.1.toList = bt170.1.toList then (if bt167.2.1 = bt170.2.1 then (if bt167.2.2 = bt170.2.2 then ((slabvaultlaw17_texts.f k y164 l0).bind fun t173 => (if t173 = true then ((slabvaultlaw17_lives.f k).bind fun t174 => (some t174)) else (none))) else (none)) else (none)) else (none)))) = some r := by first | (rw [hy164]; with_reducible exact H) | (have H2_ := (Option.bind_some _ _).symm.trans H; rw [hy164]; with_reducible exact H2_) | (have H2_ := (Option.bind_some _ _).symm.trans H; with_reducible exact H2_) | with_reducible exact H | (rw [hy164]; exact H) | exact H
    have Ny164 := Aside0.mk hy164
    clear hy164
    replace H := Option.bind_eq_some_iff.mp H
    obtain ⟨⟨t167, t168, t169⟩, A30, H⟩ := H
    replace H : ((slabvaultref17_Join.f k l0).bind fun bt170 => (if t167.toList = bt170.1.toList then (if t168 = bt170.2.1 then (if t169 = bt170.2.2 then ((slabvaultlaw17_texts.f k y164 l0).bind fun t173 => (if t173 = true then ((slabvaultlaw17_lives.f k).bind fun t174 => (some t174)) else (none))) else (none)) else (none)) else (none))) = some r := H
    have A3 := Aside0.mk A30
    clear A30
    replace H := Option.bind_eq_some_iff.mp H
    obtain ⟨⟨t170, t171, t172⟩, A40, H⟩ := H
    replace H : (if t167.toList = t170.toList then (if t168 = t171 then (if t169 = t172 then ((slabvaultlaw17_texts.f k y164 l0).bind fun t173 => (if t173 = true then ((slabvaultlaw17_lives.f k).bind fun t174 => (some t174)) else (none))) else (none)) else (none)) else (none)) = some r := H
    have A4 := Aside0.mk A40
    clear A40
    by_cases c5 : t167.toList = t170.toList
    · rw [if_pos c5] at H
      have c5b0 : (t167.toList == t170.toList) = true := beq_iff_eq.mpr c5
      have c5b1 : (t167.toList != t170.toList) = false := bne_eq_false_iff_eq.mpr c5
      clear c5
      by_cases c6 : t168 = t171
      · rw [if_pos c6] at H
        have c6b0 : (t168 == t171) = true := beq_iff_eq.mpr c6
        have c6b1 : (t168 != t171) = false := bne_eq_false_iff_eq.mpr c6
        clear c6
        by_cases c7 : t169 = t172
        · rw [if_pos c7] at H
          have c7b0 : (t169 == t172) = true := beq_iff_eq.mpr c7
          have c7b1 : (t169 != t172) = false := bne_eq_false_iff_eq.mpr c7
          clear c7
          replace H := Option.bind_eq_some_iff.mp H
          obtain ⟨t173, A80, H⟩ := H
          replace H : (if t173 = true then ((slabvaultlaw17_lives.f k).bind fun t174 => (some t174)) else (none)) = some r := H
          have A8 := Aside0.mk A80
          clear A80
          by_cases c9 : t173 = true
          · subst c9
            have H1 : ((slabvaultlaw17_lives.f k).bind fun t174 => (some t174)) = some r := by rw [if_pos rfl] at H; exact H
            clear H
            have H := H1
            clear H1
            replace H := Option.bind_eq_some_iff.mp H
            obtain ⟨t174, A100, H⟩ := H
            replace H : (some t174) = some r := H
            have A10 := Aside0.mk A100
            clear A100
            obtain rfl := Option.some.inj H
            go_enter Tryd.func5, Tryd.ntmps5
            go_wp2_with (first | ((with_reducible refine gate_dst (N := 10) rfl ?_); refine Kd.R_lit Kd.string _ 9 ?hg (N := 10) ?hd (xs := ([] : List ByteArray)) (inner := []) (ok := fun _ => True) (okp := fun _ => True) ?hr ?hp (fun _ hk => hk) trivial (Below.refl _ _) (Nat.le_refl _) (by simp) ?_; (case hd => rfl); (case hg => rfl); (case hr => first | (go_simp; done) | (go_simp; rfl)); (case hp => exact (Reps.none _ _)); intro v162 w11 ho12 hb hg_ hnew_; clear hg_ hnew_; (first | rw [← Ny161.out] at ho12 | (simp only [Int.reduceToNat] at ho12; rw [← Ny161.out] at ho12)); have n0_ := Aside0.mk (Kd.R_lower ho12 (below_size (by repeat (first | (with_reducible first | exact HB.out | apply below_alloc | apply pw_below_drewN | apply below_drew1) | exact HB.out)))); have n1_ := Aside0.mk (below_step (by repeat (first | (with_reducible first | exact HB.out | apply below_alloc | apply pw_below_drewN | apply below_drew1) | exact HB.out)) hb); clear HB; have HO163 := n0_; have HB := n1_; clear n0_ n1_; clear hb ho12) | ((with_reducible refine gate_builtin (b := .append) (xs := #[.tmp 10, .tmp 11]) rfl ?_); at_builtin; refine Kd.R_append_rows Kd.string (w0 := w) w.heap.size rfl (.tmp 10) (.tmp 11) 24 9 (.string ⟨#[]⟩) 16 rfl Tryd.underlying24 info9 rfl (by decide) (by omega) v162 y161 l0 _ _ _ (fun _ => True) (fun _ => False) rfl rfl ?aO ?aR (fun _ _ h => h) (fun _ h => h.elim) ?aF ?aB ?aS ?aL ?_; (case aR => repeat (first | exact (Kd.C_below HR0.out HB.out) | (with_reducible refine Kd.C_alloc ?_ _) | (with_reducible refine Kd.C_drewN ?_ _) | (with_reducible refine Kd.C_drew ?_))); (case aB => exact (by repeat (first | (with_reducible first | exact HB.out | apply below_alloc | apply pw_below_drewN | apply below_drew1) | exact HB.out))); (case aF => exact (fun _ _ => trivial)); (case aO => exact (by (with_reducible repeat (first | apply Kd.R_alloc | apply Kd.R_drewN | apply Kd.R_drew)); exact HO163.out)); (case aS => exact (below_size (by repeat (first | (with_reducible first | exact HB.out | apply below_alloc | apply pw_below_drewN | apply below_drew1) | exact HB.out)))); (case aL => have := LMc2.out; omega); intro v165 w13 ho hb hg hat; rw [← Ny164.out] at ho; have n0_ := Aside0.mk (hb); have n1_ := Aside0.mk (ho); clear HB; clear HO163; have HB := n0_; have HO166 := n1_; clear n0_ n1_; clear ho hb hg hat; obtain ⟨Ao14, co14, eo14⟩ := Kd.R_slice HO166.out; subst eo14) | ((with_reducible refine gate_callee (f := 16) rfl ?_); refine goesL_ (some 15) rfl rfl Tryd.func16 (by kernel_rfl) rfl #[.slice Ao14 y164.length co14] rfl (by (try simp only [List.map_toArray, List.map_cons, List.map_nil]); first | done | rfl | (simp only [List.length_drop, List.length_take]; rfl)) ?_; (with_reducible refine (path_Join.calls _ _ y164 t167 t168 t169 _ ?side1 ?side2 (lay_below HLAY_.out (by repeat (first | (with_reducible first | exact HB.out | apply below_alloc | apply pw_below_drewN | apply below_drew1) | exact HB.out))) A3.out).mono ?_); (case side1 => repeat (first | exact (Kd.R_reads' HO166.out).2.2 | (with_reducible refine Kd.C_alloc ?_ _) | (with_reducible refine Kd.C_drewN ?_ _) | (with_reducible refine Kd.C_drew ?_))); (case side2 => exact (Kd.R_reads' HO166.out).2.1); rintro e w15 ⟨rfl, hb⟩; refine ⟨_, rfl, ?_⟩; have n0_ := Aside0.mk (Kd.R_below (by (with_reducible repeat (first | apply Kd.R_alloc | apply Kd.R_drewN | apply Kd.R_drew)); exact HO166.out) hb); have n1_ := Aside0.mk (below_step (by repeat (first | (with_reducible first | exact HB.out | apply below_alloc | apply pw_below_drewN | apply below_drew1) | exact HB.out)) hb); clear HO166; clear HB; have HO166 := n0_; have HB := n1_; clear n0_ n1_; (try clear hb); (try clear hb2); (try clear hk); (try clear hi)) | ((with_reducible refine gate_callee (f := 17) rfl ?_); refine goesL_ (some 21) rfl rfl Tryd.func17 (by kernel_rfl) rfl #[.slice A0 l0.length c0] rfl (by (try simp only [List.map_toArray, List.map_cons, List.map_nil]); first | done | rfl | (simp only [List.length_drop, List.length_take]; rfl)) ?_; (with_reducible refine (slabvaultref17_Join.calls k _ _ l0 t170 t171 t172 _ ?side1 ?side2 A4.out).mono ?_); (case side1 => repeat (first | exact (Kd.C_below HR0.out HB.out) | (with_reducible refine Kd.C_alloc ?_ _) | (with_reducible refine Kd.C_drewN ?_ _) | (with_reducible refine Kd.C_drew ?_))); (case side2 => exact HC0.out); rintro e w' ⟨rfl, ⟨nd, rfl⟩⟩; refine ⟨_, rfl, ?_⟩) | (go_at_call 15; (with_reducible refine (slabvaultlaw17_texts.calls k _ _ y164 _ _ l0 true _ ?side1 ?side2 ?side3 ?side4 A8.out).mono ?_); (case side1 => repeat (first | exact (Kd.R_reads' HO166.out).2.2 | (with_reducible refine Kd.C_alloc ?_ _) | (with_reducible refine Kd.C_drewN ?_ _) | (with_reducible refine Kd.C_drew ?_))); (case side2 => exact (Kd.R_reads' HO166.out).2.1); (case side3 => repeat (first | exact (Kd.C_below HR0.out (by repeat (first | (with_reducible first | exact HB.out | apply below_alloc | apply pw_below_drewN | apply below_drew1) | exact HB.out))) | (with_reducible refine Kd.C_alloc ?_ _) | (with_reducible refine Kd.C_drewN ?_ _) | (with_reducible refine Kd.C_drew ?_))); (case side4 => exact HC0.out); rintro e w' ⟨rfl, ⟨nd, rfl⟩⟩) | (go_at_call 12; (with_reducible refine (slabvaultlaw17_lives.calls k  t174 _ (lay_below HLAY_.out (by repeat (first | (with_reducible first | exact HB.out | apply below_alloc | apply pw_below_drewN | apply below_drew1) | exact HB.out))) A10.out).mono ?_); rintro e w16 ⟨rfl, hb⟩; have n0_ := Aside0.mk (Kd.R_below (by (with_reducible repeat (first | apply Kd.R_alloc | apply Kd.R_drewN | apply Kd.R_drew)); exact HO166.out) hb); have n1_ := Aside0.mk (below_step (by repeat (first | (with_reducible first | exact HB.out | apply below_alloc | apply pw_below_drewN | apply below_drew1) | exact HB.out)) hb); clear HO166; clear HB; have HO166 := n0_; have HB := n1_; clear n0_ n1_; (try clear hb); (try clear hb2); (try clear hk); (try clear hi)))
            go_ret
            exact ⟨by first | rfl | (simp [errW_none, errW_some] <;> rfl) | (simp [*, errW_none, errW_some] <;> rfl), by repeat (first | (with_reducible first | exact HB.out | apply below_alloc | apply pw_below_drewN | apply below_drew1) | exact HB.out)⟩
          · replace c9 := Bool.eq_false_iff.mpr c9
            subst c9
            have H1 : (none) = some r := by rw [if_neg (show ¬ (false = true) by decide)] at H; exact H
            clear H
            have H := H1
            clear H1
            exact absurd H (by simp)
        · rw [if_neg c7] at H
          exact absurd H (by simp)
      · rw [if_neg c6] at H
        exact absurd H (by simp)
    · rw [if_neg c5] at H
      exact absurd H (by simp)
  · rw [if_neg c2] at H
    exact absurd H (by simp)
end Go.Proofs.YtbmginkdlcpnpaaDoor.Wk
end
section
namespace Go.Proofs.YtbmginkdlcpnpaaDoor.Wk
open Go.RowKit Go.Proofs.YtbmginkdlcpnpaaDoorW.PrintWords Go.Proofs.YtbmginkdlcpnpaaDoorW.PrintLast Go.Proofs.YtbmginkdlcpnpaaDoorW.PrintMore
attribute [local go_sem] max2_int min2_int max_two min_two max_three min_three max_four min_four
set_option linter.unusedVariables false
set_option linter.unusedSimpArgs false
def slabvaultlaw17_PathBack.j0 : Nat → ByteArray → Option (Bool)
  | 0, _ => none
  | k + 1, x1 => (path_Parse.f x1).bind fun bt184 => (if bt184.2.2 = 0 then ((path_Join.f bt184.1).bind fun bt190 => ((path_Parse.f bt190.1).bind fun bt193 => (if bt190.2.2 = 0 then (if bt193.2.2 = 0 then ((slabvaultlaw17_texts.f k bt193.1 bt184.1).bind fun t198 => (if t198 = true then (if (bt190.1.size : Int) ≤ (x1.size : Int) then ((slabvaultlaw17_lives.f k).bind fun t199 => (some t199)) else (none)) else (none))) else (none)) else (none)))) else (if (bt184.1.length : Int) = 0 then ((slabvaultlaw17_lives.f k).bind fun t189 => (some t189)) else (none)))
def slabvaultlaw17_PathBack.f (k : Nat) (l0 : List ByteArray) (a1 : ByteArray) : Option (Bool) := (path_Join.f l0).bind fun bt175 => (if bt175.2.2 = 0 then ((path_Parse.f bt175.1).bind fun bt178 => (if bt178.2.2 = 0 then (if bt178.2.1 = 0 then ((slabvaultlaw17_texts.f k bt178.1 l0).bind fun t183 => (if t183 = true then (slabvaultlaw17_PathBack.j0 k a1) else (none))) else (none)) else (none))) else (slabvaultlaw17_PathBack.j0 k a1))
end Go.Proofs.YtbmginkdlcpnpaaDoor.Wk
end
section
namespace Go.Proofs.YtbmginkdlcpnpaaDoor.Wk
open Go.RowKit Go.Proofs.YtbmginkdlcpnpaaDoorW.PrintWords Go.Proofs.YtbmginkdlcpnpaaDoorW.PrintLast Go.Proofs.YtbmginkdlcpnpaaDoorW.PrintMore
attribute [local go_sem] max2_int min2_int max_two min_two max_three min_three max_four min_four
set_option linter.unusedVariables false
set_option linter.unusedSimpArgs false
def slabvaultlaw17_PathTogether.j0 : Nat → ByteArray → ByteArray → List ByteArray → List ByteArray → Bool → Option (Bool)
  | 0, _, _, _, _, _ => none
  | k + 1, x0, x1, x5, x8, x39 => if x39 = true then ((slabvaultlaw17_lives.f k).bind fun t210 => (some t210)) else (if x0.size + x1.size ≤ 9223372036854775807 then ((path_Parse.f (x0 ++ x1)).bind fun bt211 => (if (wrap64 ((x5.length : Int) + (x8.length : Int))) > 16 then (if bt211.2.2 = 3 then (if bt211.2.1 = 16 then (if (bt211.1.length : Int) = 0 then ((slabvaultlaw17_lives.f k).bind fun t216 => (some t216)) else (none)) else (none)) else (none)) else (if bt211.2.2 = 0 then ((some (([] : List ByteArray) : List ByteArray)).bind fun y217 => (if y217.length + x5.length < 8796093022208 then ((some (y217 ++ x5 : List ByteArray)).bind fun y220 => (if y220.length + x8.length < 8796093022208 then ((slabvaultlaw17_texts.f k bt211.1 (y220 ++ x8)).bind fun t226 => (if t226 = true then ((slabvaultlaw17_lives.f k).bind fun t227 => (some t227)) else (none))) else (none))) else (none))) else (none)))) else (none))
def slabvaultlaw17_PathTogether.f (k : Nat) (a0 : ByteArray) (a1 : ByteArray) : Option (Bool) := (path_Parse.f a0).bind fun bt200 => ((path_Parse.f a1).bind fun bt205 => (if bt200.2.2 = 0 then (if bt205.2.2 = 0 then (slabvaultlaw17_PathTogether.j0 k a0 a1 bt200.1 bt205.1 (decide ((wrap64 ((a0.size : Int) + (a1.size : Int))) > 1024))) else (slabvaultlaw17_PathTogether.j0 k a0 a1 bt200.1 bt205.1 true)) else (slabvaultlaw17_PathTogether.j0 k a0 a1 bt200.1 bt205.1 true)))
def slabvaultlaw17_PathTogether.Pure : Prop := ∀ (a0 : ByteArray) (a1 : ByteArray), a0.size ≤ 140737488351232 → a1.size ≤ 140737488351232 → ∃ k, slabvaultlaw17_PathTogether.f k a0 a1 = some true
end Go.Proofs.YtbmginkdlcpnpaaDoor.Wk
end
section
namespace Go.Proofs.YtbmginkdlcpnpaaDoor.Wk
open Go.RowKit Go.Proofs.YtbmginkdlcpnpaaDoorW.PrintWords Go.Proofs.YtbmginkdlcpnpaaDoorW.PrintLast Go.Proofs.YtbmginkdlcpnpaaDoorW.PrintMore
attribute [local go_sem] max2_int min2_int max_two min_two max_three min_three max_four min_four
set_option linter.unusedVariables false
set_option linter.unusedSimpArgs false
def path_Split.f (a0 : ByteArray) : Option (ByteArray × ByteArray × Int × Int) := some (splitP a0)
end Go.Proofs.YtbmginkdlcpnpaaDoor.Wk
end
section
namespace Go.Proofs.YtbmginkdlcpnpaaDoor.Wk
open Go.RowKit Go.Proofs.YtbmginkdlcpnpaaDoorW.PrintWords Go.Proofs.YtbmginkdlcpnpaaDoorW.PrintLast Go.Proofs.YtbmginkdlcpnpaaDoorW.PrintMore
attribute [local go_sem] max2_int min2_int max_two min_two max_three min_three max_four min_four
set_option linter.unusedVariables false
set_option linter.unusedSimpArgs false
def slabvaultlaw17_PathSplits.f (k : Nat) (a0 : ByteArray) : Option (Bool) := (path_Split.f a0).bind fun bt243 => ((slabvaultref17_Split.f k a0).bind fun bt247 => (if bt243.1.toList = bt247.1.toList then (if bt243.2.1.toList = bt247.2.1.toList then (if bt243.2.2.1 = bt247.2.2.1 then (if bt243.2.2.2 = bt247.2.2.2 then ((slabvaultlaw17_lives.f k).bind fun t251 => (some t251)) else (none)) else (none)) else (none)) else (none)))
def slabvaultlaw17_PathSplits.Pure : Prop := ∀ (a0 : ByteArray), a0.size ≤ 140737488351232 → ∃ k, slabvaultlaw17_PathSplits.f k a0 = some true
end Go.Proofs.YtbmginkdlcpnpaaDoor.Wk
end
section
namespace Go.Proofs.YtbmginkdlcpnpaaDoor.Wk
open Go.RowKit Go.Proofs.YtbmginkdlcpnpaaDoorW.PrintWords Go.Proofs.YtbmginkdlcpnpaaDoorW.PrintLast Go.Proofs.YtbmginkdlcpnpaaDoorW.PrintMore
attribute [local go_sem] max2_int min2_int max_two min_two max_three min_three max_four min_four
set_option linter.unusedVariables false
set_option linter.unusedSimpArgs false
def slabvaultlaw17_PathLast.f (k : Nat) (a0 : ByteArray) : Option (Bool) := (path_Parse.f a0).bind fun bt252 => ((path_Split.f a0).bind fun bt257 => (if bt252.2.2 = 0 then (if (bt252.1.length : Int) = 0 then (if bt257.2.2.2 = 11 then (if bt257.1.toList = ([] : List UInt8) then (if bt257.2.1.toList = ([] : List UInt8) then (if bt257.2.2.1 = 0 then ((slabvaultlaw17_lives.f k).bind fun t262 => (some t262)) else (none)) else (none)) else (none)) else (none)) else ((path_Parse.f bt257.1).bind fun bt263 => (if bt257.2.2.2 = 0 then (if bt263.2.2 = 0 then (if 0 ≤ (wrap64 ((bt252.1.length : Int) - 1)) then (if (wrap64 ((bt252.1.length : Int) - 1)) < (bt252.1.length : Int) then (if bt257.2.1.toList = (rdOf ByteArray.empty bt252.1 (wrap64 ((bt252.1.length : Int) - 1))).toList then (if (wrap64 ((bt252.1.length : Int) - 1)) ≤ (bt252.1.length : Int) then ((slabvaultlaw17_texts.f k bt263.1 (bt252.1.take ((wrap64 ((bt252.1.length : Int) - 1)) : Int).toNat)).bind fun t273 => (if t273 = true then ((path_Name.f bt257.2.1).bind fun t274 => (if t274 = true then ((slabvaultlaw17_lives.f k).bind fun t275 => (some t275)) else (none))) else (none))) else (none)) else (none)) else (none)) else (none)) else (none)) else (none)))) else (if bt257.2.2.2 = bt252.2.2 then (if bt257.2.2.1 = bt252.2.1 then (if bt257.1.toList = ([] : List UInt8) then (if bt257.2.1.toList = ([] : List UInt8) then ((slabvaultlaw17_lives.f k).bind fun t261 => (some t261)) else (none)) else (none)) else (none)) else (none))))
def slabvaultlaw17_PathLast.Pure : Prop := ∀ (a0 : ByteArray), a0.size ≤ 140737488351232 → ∃ k, slabvaultlaw17_PathLast.f k a0 = some true
end Go.Proofs.YtbmginkdlcpnpaaDoor.Wk
end
section
namespace Go.Proofs.YtbmginkdlcpnpaaDoor.Wk
open Go.RowKit Go.Lib Go.Proofs.YtbmginkdlcpnpaaDoorW.PrintWords Go.Proofs.YtbmginkdlcpnpaaDoorW.PrintLast Go.Proofs.YtbmginkdlcpnpaaDoorW.PrintMore
set_option linter.unusedVariables false
theorem joins_pure (l : List ByteArray) (hl : l.length ≤ 8796093021952) : ∃ k, slabvaultlaw17_PathJoins.f k l = some true := by
  refine ⟨l.length + 5000, ?_⟩
  unfold slabvaultlaw17_PathJoins.f path_Join.f
  simp only [Option.bind_some, List.nil_append, List.length_nil]
  rw [if_pos (by omega), ref_join l _ (by omega)]
  simp only [Option.bind_some, if_true]
  rw [texts_refl l (by omega) _ (by omega)]
  simp only [Option.bind_some, if_true]
  rw [lives_ok _ (by omega)]
  rfl
end Go.Proofs.YtbmginkdlcpnpaaDoor.Wk
end
