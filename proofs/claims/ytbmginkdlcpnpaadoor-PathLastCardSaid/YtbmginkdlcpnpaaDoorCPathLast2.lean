-- Texts that the row PathLast leans on, joined by wip/tools/mkclaim.py: Wk49, Wk50, Wk51, Wk54, Wk56, Wk57, Plain17c
import Derived.Test.YtbmginkdlcpnpaaDoorCPathLast1
section
namespace Go.Proofs.YtbmginkdlcpnpaaDoor.Wk
open Go.RowKit Go.Proofs.YtbmginkdlcpnpaaDoorW.PrintWords Go.Proofs.YtbmginkdlcpnpaaDoorW.PrintLast Go.Proofs.YtbmginkdlcpnpaaDoorW.PrintMore
attribute [local go_sem] max2_int min2_int max_two min_two max_three min_three max_four min_four
set_option linter.unusedVariables false
set_option linter.unusedSimpArgs false
def slabvaultlaw17_PathJoins.f (k : Nat) (l0 : List ByteArray) : Option (Bool) := (some (([] : List ByteArray) : List ByteArray)).bind fun y161 => (if y161.length + l0.length < 8796093022208 then ((some (y161 ++ l0 : List ByteArray)).bind fun y164 => ((path_Join.f y164).bind fun bt167 => ((slabvaultref17_Join.f k l0).bind fun bt170 => (if bt167.1.toList = bt170.1.toList then (if bt167.2.1 = bt170.2.1 then (if bt167.2.2 = bt170.2.2 then ((slabvaultlaw17_texts.f k y164 l0).bind fun t173 => (if t173 = true then ((slabvaultlaw17_lives.f k).bind fun t174 => (some t174)) else (none))) else (none)) else (none)) else (none))))) else (none))
end Go.Proofs.YtbmginkdlcpnpaaDoor.Wk
end
section
namespace Go.Proofs.YtbmginkdlcpnpaaDoor.Wk
open Go.RowKit Go.Proofs.YtbmginkdlcpnpaaDoorW.PrintWords Go.Proofs.YtbmginkdlcpnpaaDoorW.PrintLast Go.Proofs.YtbmginkdlcpnpaaDoorW.PrintMore
attribute [local go_sem] max2_int min2_int max_two min_two max_three min_three max_four min_four
set_option linter.unusedVariables false
set_option linter.unusedSimpArgs false
def slabvaultlaw17_PathBack.j0 : Nat → ByteArray → Option (Bool)
  | 0, _ => none
  | k + 1, x1 => (path_Parse.f x1).bind fun bt184 => (if bt184.2.2 = 0 then ((path_Join.f bt184.1).bind fun bt190 => ((path_Parse.f bt190.1).bind fun bt193 => (if bt190.2.2 = 0 then (if bt193.2.2 = 0 then ((slabvaultlaw17_texts.f k bt193.1 bt184.1).bind fun t198 => (if t198 = true then (if (bt190.1.size : Int) ≤ (x1.size : Int) then ((slabvaultlaw17_lives.f k).bind fun t199 => (some t199)) else (none)) else (none))) else (none)) else (none)))) else (if (bt184.1.length : Int) = 0 then ((slabvaultlaw17_lives.f k).bind fun t189 => (some t189)) else (none)))
def slabvaultlaw17_PathBack.f (k : Nat) (l0 : List ByteArray) (a1 : ByteArray) : Option (Bool) := (path_Join.f l0).bind fun bt175 => (if bt175.2.2 = 0 then ((path_Parse.f bt175.1).bind fun bt178 => (if bt178.2.2 = 0 then (if bt178.2.1 = 0 then ((slabvaultlaw17_texts.f k bt178.1 l0).bind fun t183 => (if t183 = true then (slabvaultlaw17_PathBack.j0 k a1) else (none))) else (none)) else (none))) else (slabvaultlaw17_PathBack.j0 k a1))
end Go.Proofs.YtbmginkdlcpnpaaDoor.Wk
end
section
namespace Go.Proofs.YtbmginkdlcpnpaaDoor.Wk
open Go.RowKit Go.Proofs.YtbmginkdlcpnpaaDoorW.PrintWords Go.Proofs.YtbmginkdlcpnpaaDoorW.PrintLast Go.Proofs.YtbmginkdlcpnpaaDoorW.PrintMore
attribute [local go_sem] max2_int min2_int max_two min_two max_three min_three max_four min_four
set_option linter.unusedVariables false
set_option linter.unusedSimpArgs false
def slabvaultlaw17_PathTogether.j0 : Nat → ByteArray → ByteArray → List ByteArray → List ByteArray → Bool → Option (Bool)
  | 0, _, _, _, _, _ => none
  | k + 1, x0, x1, x5, x8, x39 => if x39 = true then ((slabvaultlaw17_lives.f k).bind fun t210 => (some t210)) else (if x0.size + x1.size ≤ 9223372036854775807 then ((path_Parse.f (x0 ++ x1)).bind fun bt211 => (if (wrap64 ((x5.length : Int) + (x8.length : Int))) > 16 then (if bt211.2.2 = 3 then (if bt211.2.1 = 16 then (if (bt211.1.length : Int) = 0 then ((slabvaultlaw17_lives.f k).bind fun t216 => (some t216)) else (none)) else (none)) else (none)) else (if bt211.2.2 = 0 then ((some (([] : List ByteArray) : List ByteArray)).bind fun y217 => (if y217.length + x5.length < 8796093022208 then ((some (y217 ++ x5 : List ByteArray)).bind fun y220 => (if y220.length + x8.length < 8796093022208 then ((slabvaultlaw17_texts.f k bt211.1 (y220 ++ x8)).bind fun t226 => (if t226 = true then ((slabvaultlaw17_lives.f k).bind fun t227 => (some t227)) else (none))) else (none))) else (none))) else (none)))) else (none))
def slabvaultlaw17_PathTogether.f (k : Nat) (a0 : ByteArray) (a1 : ByteArray) : Option (Bool) := (path_Parse.f a0).bind fun bt200 => ((path_Parse.f a1).bind fun bt205 => (if bt200.2.2 = 0 then (if bt205.2.2 = 0 then (slabvaultlaw17_PathTogether.j0 k a0 a1 bt200.1 bt205.1 (decide ((wrap64 ((a0.size : Int) + (a1.size : Int))) > 1024))) else (slabvaultlaw17_PathTogether.j0 k a0 a1 bt200.1 bt205.1 true)) else (slabvaultlaw17_PathTogether.j0 k a0 a1 bt200.1 bt205.1 true)))
def slabvaultlaw17_PathTogether.Pure : Prop := ∀ (a0 : ByteArray) (a1 : ByteArray), a0.size ≤ 140737488351232 → a1.size ≤ 140737488351232 → ∃ k, slabvaultlaw17_PathTogether.f k a0 a1 = some true
end Go.Proofs.YtbmginkdlcpnpaaDoor.Wk
end
section
namespace Go.Proofs.YtbmginkdlcpnpaaDoor.Wk
open Go.RowKit Go.Proofs.YtbmginkdlcpnpaaDoorW.PrintWords Go.Proofs.YtbmginkdlcpnpaaDoorW.PrintLast Go.Proofs.YtbmginkdlcpnpaaDoorW.PrintMore
attribute [local go_sem] max2_int min2_int max_two min_two max_three min_three max_four min_four
set_option linter.unusedVariables false
set_option linter.unusedSimpArgs false
def path_Split.f (a0 : ByteArray) : Option (ByteArray × ByteArray × Int × Int) := some (splitP a0)
theorem path_Split.calls (a0 : ByteArray) (r1 : ByteArray) (r2 : ByteArray) (r3 : Int) (r4 : Int) (w : World) (hlay_ : Lay w) (h : path_Split.f a0 = some (r1, r2, r3, r4)) :
    Calls Tryd.prog 18 #[.string a0] w fun e w' => e = .returned (.tuple #[.string r1, .string r2, .int .i64 r3, .int .i64 r4]) ∧ Below w.heap.size w w' :=
  split_calls a0 w hlay_ r1 r2 r3 r4 (Option.some.inj h)
end Go.Proofs.YtbmginkdlcpnpaaDoor.Wk
end
section
namespace Go.Proofs.YtbmginkdlcpnpaaDoor.Wk
open Go.RowKit Go.Proofs.YtbmginkdlcpnpaaDoorW.PrintWords Go.Proofs.YtbmginkdlcpnpaaDoorW.PrintLast Go.Proofs.YtbmginkdlcpnpaaDoorW.PrintMore
attribute [local go_sem] max2_int min2_int max_two min_two max_three min_three max_four min_four
set_option linter.unusedVariables false
set_option linter.unusedSimpArgs false
def slabvaultlaw17_PathSplits.f (k : Nat) (a0 : ByteArray) : Option (Bool) := (path_Split.f a0).bind fun bt243 => ((slabvaultref17_Split.f k a0).bind fun bt247 => (if bt243.1.toList = bt247.1.toList then (if bt243.2.1.toList = bt247.2.1.toList then (if bt243.2.2.1 = bt247.2.2.1 then (if bt243.2.2.2 = bt247.2.2.2 then ((slabvaultlaw17_lives.f k).bind fun t251 => (some t251)) else (none)) else (none)) else (none)) else (none)))
def slabvaultlaw17_PathSplits.Pure : Prop := ∀ (a0 : ByteArray), a0.size ≤ 140737488351232 → ∃ k, slabvaultlaw17_PathSplits.f k a0 = some true
end Go.Proofs.YtbmginkdlcpnpaaDoor.Wk
end
section
namespace Go.Proofs.YtbmginkdlcpnpaaDoor.Wk
open Go.RowKit Go.Proofs.YtbmginkdlcpnpaaDoorW.PrintWords Go.Proofs.YtbmginkdlcpnpaaDoorW.PrintLast Go.Proofs.YtbmginkdlcpnpaaDoorW.PrintMore
attribute [local go_sem] max2_int min2_int max_two min_two max_three min_three max_four min_four
set_option linter.unusedVariables false
set_option linter.unusedSimpArgs false
def slabvaultlaw17_PathLast.f (k : Nat) (a0 : ByteArray) : Option (Bool) := (path_Parse.f a0).bind fun bt252 => ((path_Split.f a0).bind fun bt257 => (if bt252.2.2 = 0 then (if (bt252.1.length : Int) = 0 then (if bt257.2.2.2 = 11 then (if bt257.1.toList = ([] : List UInt8) then (if bt257.2.1.toList = ([] : List UInt8) then (if bt257.2.2.1 = 0 then ((slabvaultlaw17_lives.f k).bind fun t262 => (some t262)) else (none)) else (none)) else (none)) else (none)) else ((path_Parse.f bt257.1).bind fun bt263 => (if bt257.2.2.2 = 0 then (if bt263.2.2 = 0 then (if 0 ≤ (wrap64 ((bt252.1.length : Int) - 1)) then (if (wrap64 ((bt252.1.length : Int) - 1)) < (bt252.1.length : Int) then (if bt257.2.1.toList = (rdOf ByteArray.empty bt252.1 (wrap64 ((bt252.1.length : Int) - 1))).toList then (if (wrap64 ((bt252.1.length : Int) - 1)) ≤ (bt252.1.length : Int) then ((slabvaultlaw17_texts.f k bt263.1 (bt252.1.take ((wrap64 ((bt252.1.length : Int) - 1)) : Int).toNat)).bind fun t273 => (if t273 = true then ((path_Name.f bt257.2.1).bind fun t274 => (if t274 = true then ((slabvaultlaw17_lives.f k).bind fun t275 => (some t275)) else (none))) else (none))) else (none)) else (none)) else (none)) else (none)) else (none)) else (none)))) else (if bt257.2.2.2 = bt252.2.2 then (if bt257.2.2.1 = bt252.2.1 then (if bt257.1.toList = ([] : List UInt8) then (if bt257.2.1.toList = ([] : List UInt8) then ((slabvaultlaw17_lives.f k).bind fun t261 => (some t261)) else (none)) else (none)) else (none)) else (none))))
set_option maxHeartbeats 8000000 in
set_option maxRecDepth 100000 in
theorem slabvaultlaw17_PathLast.calls (k : Nat) (a0 : ByteArray) (r : Bool) (w : World) (hlay_ : Lay w) (h : slabvaultlaw17_PathLast.f k a0 = some r) :
    Calls Tryd.prog 9 #[.string a0] w fun e w' => e = .returned (.bool r) ∧ Below w.heap.size w w' := by
  have HLAY_ := Aside0.mk hlay_
  clear hlay_
  have HB := Aside0.mk (Below.refl w.heap.size w)
  have H : ((path_Parse.f a0).bind fun bt252 => ((path_Split.f a0).bind fun bt257 => (if bt252.2.2 = 0 then (if (bt252.1.length : Int) = 0 then (if bt257.2.2.2 = 11 then (if bt257.1.toList = ([] : List UInt8) then (if bt257.2.1.toList = ([] : List UInt8) then (if bt257.2.2.1 = 0 then ((slabvaultlaw17_lives.f k).bind fun t262 => (some t262)) else (none)) else (none)) else (none)) else (none)) else ((path_Parse.f bt257.1).bind fun bt263 => (if bt257.2.2.2 = 0 then (if bt263.2.2 = 0 then (if 0 ≤ (wrap64 ((bt252.1.length : Int) - 1)) then (if (wrap64 ((bt252.1.length : Int) - 1)) < (bt252.1.length : Int) then (if bt257.2.1.toList = (rdOf ByteArray.empty bt252.1 (wrap64 ((bt252.1.length : Int) - 1))).toList then (if (wrap64 ((bt252.1.length : Int) - 1)) ≤ (bt252.1.length : Int) then ((slabvaultlaw17_texts.f k bt263.1 (bt252.1.take ((wrap64 ((bt252.1.length : Int) - 1)) : Int).toNat)).bind fun t273 => (if t273 = true then ((path_Name.f bt257.2.1).bind fun t274 => (if t274 = true then ((slabvaultlaw17_lives.f k).bind fun t275 => (some t275)) else (none))) else (none))) else (none)) else (none)) else (none)) else (none)) else (none)) else (none)))) else (if bt257.2.2.2 = bt252.2.2 then (if bt257.2.2.1 = bt252.2.1 then (if bt257.1.toList = ([] : List UInt8) then (if bt257.2.1.toList = ([] : List UInt8) then ((slabvaultlaw17_lives.f k).bind fun t261 => (some t261)) else (none)) else (none)) else (none)) else (none))))) = some r := h
  clear h
  replace H := Option.bind_eq_some_iff.mp H
  obtain ⟨⟨t252, t253, t254⟩, A20, H⟩ := H
  replace H : ((path_Split.f a0).bind fun bt257 => (if t254 = 0 then (if (t252.length : Int) = 0 then (if bt257.2.2.2 = 11 then (if bt257.1.toList = ([] : List UInt8) then (if bt257.2.1.toList = ([] : List UInt8) then (if bt257.2.2.1 = 0 then ((slabvaultlaw17_lives.f k).bind fun t262 => (some t262)) else (none)) else (none)) else (none)) else (none)) else ((path_Parse.f bt257.1).bind fun bt263 => (if bt257.2.2.2 = 0 then (if bt263.2.2 = 0 then (if 0 ≤ (wrap64 ((t252.length : Int) - 1)) then (if (wrap64 ((t252.length : Int) - 1)) < (t252.length : Int) then (if bt257.2.1.toList = (rdOf ByteArray.empty t252 (wrap64 ((t252.length : Int) - 1))).toList then (if (wrap64 ((t252.length : Int) - 1)) ≤ (t252.length : Int) then ((slabvaultlaw17_texts.f k bt263.1 (t252.take ((wrap64 ((t252.length : Int) - 1)) : Int).toNat)).bind fun t273 => (if t273 = true then ((path_Name.f bt257.2.1).bind fun t274 => (if t274 = true then ((slabvaultlaw17_lives.f k).bind fun t275 => (some t275)) else (none))) else (none))) else (none)) else (none)) else (none)) else (none)) else (none)) else (none)))) else (if bt257.2.2.2 = t254 then (if bt257.2.2.1 = t253 then (if bt257.1.toList = ([] : List UInt8) then (if bt257.2.1.toList = ([] : List UInt8) then ((slabvaultlaw17_lives.f k).bind fun t261 => (some t261)) else (none)) else (none)) else (none)) else (none)))) = some r := H
  have A2 := Aside0.mk A20
  clear A20
  replace H := Option.bind_eq_some_iff.mp H
  obtain ⟨⟨t257, t258, t259, t260⟩, A30, H⟩ := H
  replace H : (if t254 = 0 then (if (t252.length : Int) = 0 then (if t260 = 11 then (if t257.toList = ([] : List UInt8) then (if t258.toList = ([] : List UInt8) then (if t259 = 0 then ((slabvaultlaw17_lives.f k).bind fun t262 => (some t262)) else (none)) else (none)) else (none)) else (none)) else ((path_Parse.f t257).bind fun bt263 => (if t260 = 0 then (if bt263.2.2 = 0 then (if 0 ≤ (wrap64 ((t252.length : Int) - 1)) then (if (wrap64 ((t252.length : Int) - 1)) < (t252.length : Int) then (if t258.toList = (rdOf ByteArray.empty t252 (wrap64 ((t252.length : Int) - 1))).toList then (if (wrap64 ((t252.length : Int) - 1)) ≤ (t252.length : Int) then ((slabvaultlaw17_texts.f k bt263.1 (t252.take ((wrap64 ((t252.length : Int) - 1)) : Int).toNat)).bind fun t273 => (if t273 = true then ((path_Name.f t258).bind fun t274 => (if t274 = true then ((slabvaultlaw17_lives.f k).bind fun t275 => (some t275)) else (none))) else (none))) else (none)) else (none)) else (none)) else (none)) else (none)) else (none)))) else (if t260 = t254 then (if t259 = t253 then (if t257.toList = ([] : List UInt8) then (if t258.toList = ([] : List UInt8) then ((slabvaultlaw17_lives.f k).bind fun t261 => (some t261)) else (none)) else (none)) else (none)) else (none))) = some r := H
  have A3 := Aside0.mk A30
  clear A30
  by_cases c4 : t254 = 0
  · rw [if_pos c4] at H
    have c4b0 : (t254 == 0) = true := beq_iff_eq.mpr c4
    have c4b1 : (t254 != 0) = false := bne_eq_false_iff_eq.mpr c4
    clear c4
    by_cases c5 : (t252.length : Int) = 0
    · rw [if_pos c5] at H
      have c5b0 : ((t252.length : Int) == 0) = true := beq_iff_eq.mpr c5
      have c5b1 : ((t252.length : Int) != 0) = false := bne_eq_false_iff_eq.mpr c5
      clear c5
      by_cases c6 : t260 = 11
      · rw [if_pos c6] at H
        have c6b0 : (t260 == 11) = true := beq_iff_eq.mpr c6
        have c6b1 : (t260 != 11) = false := bne_eq_false_iff_eq.mpr c6
        clear c6
        by_cases c7 : t257.toList = ([] : List UInt8)
        · rw [if_pos c7] at H
          have c7b0 : (t257.toList == ([] : List UInt8)) = true := beq_iff_eq.mpr c7
          have c7b1 : (t257.toList != ([] : List UInt8)) = false := bne_eq_false_iff_eq.mpr c7
          clear c7
          by_cases c8 : t258.toList = ([] : List UInt8)
          · rw [if_pos c8] at H
            have c8b0 : (t258.toList == ([] : List UInt8)) = true := beq_iff_eq.mpr c8
            have c8b1 : (t258.toList != ([] : List UInt8)) = false := bne_eq_false_iff_eq.mpr c8
            clear c8
            by_cases c9 : t259 = 0
            · rw [if_pos c9] at H
              have c9b0 : (t259 == 0) = true := beq_iff_eq.mpr c9
              have c9b1 : (t259 != 0) = false := bne_eq_false_iff_eq.mpr c9
              clear c9
              replace H := Option.bind_eq_some_iff.mp H
              obtain ⟨t262, A100, H⟩ := H
              replace H : (some t262) = some r := H
              have A10 := Aside0.mk A100
              clear A100
              obtain rfl := Option.some.inj H
              go_enter Tryd.func9, Tryd.ntmps9
              go_wp2_with (first | ((with_reducible refine gate_callee (f := 13) rfl ?_); refine goesL_ (some 15) rfl rfl Tryd.func13 (by kernel_rfl) rfl #[.string a0] rfl (by (try simp only [List.map_toArray, List.map_cons, List.map_nil]); first | done | rfl | (simp only [List.length_drop, List.length_take]; rfl)) ?_; (with_reducible refine (path_Parse.calls a0 t252 t253 t254 _ (lay_below HLAY_.out (by repeat (first | (with_reducible first | exact HB.out | apply below_alloc | apply pw_below_drewN | apply below_drew1) | exact HB.out))) A2.out).mono ?_); rintro e w11 ⟨v255, rfl, ho0, hb⟩; refine ⟨_, rfl, ?_⟩; have n0_ := Aside0.mk (Kd.R_lower ho0 (below_size (by repeat (first | (with_reducible first | exact HB.out | apply below_alloc | apply pw_below_drewN | apply below_drew1) | exact HB.out)))); have n1_ := Aside0.mk (below_step (by repeat (first | (with_reducible first | exact HB.out | apply below_alloc | apply pw_below_drewN | apply below_drew1) | exact HB.out)) hb); clear HB; have HO256 := n0_; have HB := n1_; clear n0_ n1_; (try clear hb); (try clear hb2); (try clear hk); (try clear hi); (try clear ho0)) | ((with_reducible refine gate_callee (f := 18) rfl ?_); refine goesL_ (some 21) rfl rfl Tryd.func18 (by kernel_rfl) rfl #[.string a0] rfl (by (try simp only [List.map_toArray, List.map_cons, List.map_nil]); first | done | rfl | (simp only [List.length_drop, List.length_take]; rfl)) ?_; (with_reducible refine (path_Split.calls a0 t257 t258 t259 t260 _ (lay_below HLAY_.out (by repeat (first | (with_reducible first | exact HB.out | apply below_alloc | apply pw_below_drewN | apply below_drew1) | exact HB.out))) A3.out).mono ?_); rintro e w12 ⟨rfl, hb⟩; refine ⟨_, rfl, ?_⟩; have n0_ := Aside0.mk (Kd.R_below (by (with_reducible repeat (first | apply Kd.R_alloc | apply Kd.R_drewN | apply Kd.R_drew)); exact HO256.out) hb); have n1_ := Aside0.mk (below_step (by repeat (first | (with_reducible first | exact HB.out | apply below_alloc | apply pw_below_drewN | apply below_drew1) | exact HB.out)) hb); clear HO256; clear HB; have HO256 := n0_; have HB := n1_; clear n0_ n1_; (try clear hb); (try clear hb2); (try clear hk); (try clear hi); obtain ⟨Ao13, co13, eo13⟩ := Kd.R_slice HO256.out; subst eo13) | (go_at_call 12; (with_reducible refine (slabvaultlaw17_lives.calls k  t262 _ (lay_below HLAY_.out (by repeat (first | (with_reducible first | exact HB.out | apply below_alloc | apply pw_below_drewN | apply below_drew1) | exact HB.out))) A10.out).mono ?_); rintro e w14 ⟨rfl, hb⟩; have n0_ := Aside0.mk (Kd.R_below (by (with_reducible repeat (first | apply Kd.R_alloc | apply Kd.R_drewN | apply Kd.R_drew)); exact HO256.out) hb); have n1_ := Aside0.mk (below_step (by repeat (first | (with_reducible first | exact HB.out | apply below_alloc | apply pw_below_drewN | apply below_drew1) | exact HB.out)) hb); clear HO256; clear HB; have HO256 := n0_; have HB := n1_; clear n0_ n1_; (try clear hb); (try clear hb2); (try clear hk); (try clear hi)))
              go_ret
              exact ⟨by first | rfl | (simp [errW_none, errW_some] <;> rfl) | (simp [*, errW_none, errW_some] <;> rfl), by repeat (first | (with_reducible first | exact HB.out | apply below_alloc | apply pw_below_drewN | apply below_drew1) | exact HB.out)⟩
            · rw [if_neg c9] at H
              exact absurd H (by simp)
          · rw [if_neg c8] at H
            exact absurd H (by simp)
        · rw [if_neg c7] at H
          exact absurd H (by simp)
      · rw [if_neg c6] at H
        exact absurd H (by simp)
    · rw [if_neg c5] at H
      have c5b0 : ((t252.length : Int) == 0) = false := beq_eq_false_iff_ne.mpr c5
      have c5b1 : ((t252.length : Int) != 0) = true := bne_iff_ne.mpr c5
      have c5b2 : ¬ (t252 = []) := fun h_ => c5 (by rw [h_]; rfl)
      replace H := Option.bind_eq_some_iff.mp H
      obtain ⟨⟨t263, t264, t265⟩, A150, H⟩ := H
      replace H : (if t260 = 0 then (if t265 = 0 then (if 0 ≤ (wrap64 ((t252.length : Int) - 1)) then (if (wrap64 ((t252.length : Int) - 1)) < (t252.length : Int) then (if t258.toList = (rdOf ByteArray.empty t252 (wrap64 ((t252.length : Int) - 1))).toList then (if (wrap64 ((t252.length : Int) - 1)) ≤ (t252.length : Int) then ((slabvaultlaw17_texts.f k t263 (t252.take ((wrap64 ((t252.length : Int) - 1)) : Int).toNat)).bind fun t273 => (if t273 = true then ((path_Name.f t258).bind fun t274 => (if t274 = true then ((slabvaultlaw17_lives.f k).bind fun t275 => (some t275)) else (none))) else (none))) else (none)) else (none)) else (none)) else (none)) else (none)) else (none)) = some r := H
      have A15 := Aside0.mk A150
      clear A150
      by_cases c16 : t260 = 0
      · rw [if_pos c16] at H
        have c16b0 : (t260 == 0) = true := beq_iff_eq.mpr c16
        have c16b1 : (t260 != 0) = false := bne_eq_false_iff_eq.mpr c16
        clear c16
        by_cases c17 : t265 = 0
        · rw [if_pos c17] at H
          have c17b0 : (t265 == 0) = true := beq_iff_eq.mpr c17
          have c17b1 : (t265 != 0) = false := bne_eq_false_iff_eq.mpr c17
          clear c17
          obtain ⟨ji18, hji18⟩ : ∃ j_ : Int, (wrap64 ((t252.length : Int) - 1)) = j_ := ⟨_, rfl⟩
          replace H : (if 0 ≤ (ji18) then (if (ji18) < (t252.length : Int) then (if t258.toList = (rdOf ByteArray.empty t252 (ji18)).toList then (if (ji18) ≤ (t252.length : Int) then ((slabvaultlaw17_texts.f k t263 (t252.take ((ji18) : Int).toNat)).bind fun t273 => (if t273 = true then ((path_Name.f t258).bind fun t274 => (if t274 = true then ((slabvaultlaw17_lives.f k).bind fun t275 => (some t275)) else (none))) else (none))) else (none)) else (none)) else (none)) else (none)) = some r := by first | (rw [hji18] at H; exact H) | (simp only [hji18] at H ⊢; exact H)
          (try rw [hji18] at A2)
          (try rw [hji18] at A3)
          (try rw [hji18] at A15)
          have hji18w : (IntKind.i64.wrap ((t252.length : Int) - 1)) = ji18 := (i64_w _).trans hji18
          by_cases c19 : 0 ≤ (ji18)
          · rw [if_pos c19] at H
            have c19b0 : decide (0 ≤ (ji18)) = true := decide_eq_true c19
            clear c19
            by_cases c20 : (ji18) < (t252.length : Int)
            · rw [if_pos c20] at H
              have c20b0 : decide ((ji18) < (t252.length : Int)) = true := decide_eq_true c20
              clear c20
              by_cases c21 : t258.toList = (rdOf ByteArray.empty t252 (ji18)).toList
              · rw [if_pos c21] at H
                have c21b0 : (t258.toList == (rdOf ByteArray.empty t252 (ji18)).toList) = true := beq_iff_eq.mpr c21
                have c21b1 : (t258.toList != (rdOf ByteArray.empty t252 (ji18)).toList) = false := bne_eq_false_iff_eq.mpr c21
                clear c21
                have c22b0 := eq_true (of_decide_eq_true (by first | (with_reducible assumption) | assumption) : 0 ≤ (ji18))
                by_cases c23 : (ji18) ≤ (t252.length : Int)
                · rw [if_pos c23] at H
                  have c23b0 := eq_true c23
                  have c23b1 : decide ((ji18) ≤ (t252.length : Int)) = true := decide_eq_true c23
                  clear c23
                  obtain ⟨y269, hy269⟩ : ∃ y_ : List ByteArray, y_ = (t252.take ((ji18) : Int).toNat) := ⟨_, rfl⟩
                  replace H : ((slabvaultlaw17_texts.f k t263 y269).bind fun t273 => (if t273 = true then ((path_Name.f t258).bind fun t274 => (if t274 = true then ((slabvaultlaw17_lives.f k).bind fun t275 => (some t275)) else (none))) else (none))) = some r := by first | (rw [hy269]; with_reducible exact H) | (have H2_ := (Option.bind_some _ _).symm.trans H; rw [hy269]; with_reducible exact H2_) | (have H2_ := (Option.bind_some _ _).symm.trans H; with_reducible exact H2_) | with_reducible exact H | (rw [hy269]; exact H) | exact H
                  have Ny269 := Aside0.mk hy269
                  clear hy269
                  replace H := Option.bind_eq_some_iff.mp H
                  obtain ⟨t273, A240, H⟩ := H
                  replace H : (if t273 = true then ((path_Name.f t258).bind fun t274 => (if t274 = true then ((slabvaultlaw17_lives.f k).bind fun t275 => (some t275)) else (none))) else (none)) = some r := H
                  have A24 := Aside0.mk A240
                  clear A240
                  by_cases c25 : t273 = true
                  · subst c25
                    have H1 : ((path_Name.f t258).bind fun t274 => (if t274 = true then ((slabvaultlaw17_lives.f k).bind fun t275 => (some t275)) else (none))) = some r := by rw [if_pos rfl] at H; exact H
                    clear H
                    have H := H1
                    clear H1
                    replace H := Option.bind_eq_some_iff.mp H
                    obtain ⟨t274, A260, H⟩ := H
                    replace H : (if t274 = true then ((slabvaultlaw17_lives.f k).bind fun t275 => (some t275)) else (none)) = some r := H
                    have A26 := Aside0.mk A260
                    clear A260
                    by_cases c27 : t274 = true
                    · subst c27
                      have H1 : ((slabvaultlaw17_lives.f k).bind fun t275 => (some t275)) = some r := by rw [if_pos rfl] at H; exact H
                      clear H
                      have H := H1
                      clear H1
                      replace H := Option.bind_eq_some_iff.mp H
                      obtain ⟨t275, A280, H⟩ := H
                      replace H : (some t275) = some r := H
                      have A28 := Aside0.mk A280
                      clear A280
                      obtain rfl := Option.some.inj H
                      go_enter Tryd.func9, Tryd.ntmps9
                      go_wp2_with (first | ((with_reducible refine gate_callee (f := 13) rfl ?_); refine goesL_ (some 15) rfl rfl Tryd.func13 (by kernel_rfl) rfl #[.string a0] rfl (by (try simp only [List.map_toArray, List.map_cons, List.map_nil]); first | done | rfl | (simp only [List.length_drop, List.length_take]; rfl)) ?_; (with_reducible refine (path_Parse.calls a0 t252 t253 t254 _ (lay_below HLAY_.out (by repeat (first | (with_reducible first | exact HB.out | apply below_alloc | apply pw_below_drewN | apply below_drew1) | exact HB.out))) A2.out).mono ?_); rintro e w29 ⟨v255, rfl, ho0, hb⟩; refine ⟨_, rfl, ?_⟩; have n0_ := Aside0.mk (Kd.R_lower ho0 (below_size (by repeat (first | (with_reducible first | exact HB.out | apply below_alloc | apply pw_below_drewN | apply below_drew1) | exact HB.out)))); have n1_ := Aside0.mk (below_step (by repeat (first | (with_reducible first | exact HB.out | apply below_alloc | apply pw_below_drewN | apply below_drew1) | exact HB.out)) hb); clear HB; have HO256 := n0_; have HB := n1_; clear n0_ n1_; (try clear hb); (try clear hb2); (try clear hk); (try clear hi); (try clear ho0)) | ((with_reducible refine gate_callee (f := 18) rfl ?_); refine goesL_ (some 21) rfl rfl Tryd.func18 (by kernel_rfl) rfl #[.string a0] rfl (by (try simp only [List.map_toArray, List.map_cons, List.map_nil]); first | done | rfl | (simp only [List.length_drop, List.length_take]; rfl)) ?_; (with_reducible refine (path_Split.calls a0 t257 t258 t259 t260 _ (lay_below HLAY_.out (by repeat (first | (with_reducible first | exact HB.out | apply below_alloc | apply pw_below_drewN | apply below_drew1) | exact HB.out))) A3.out).mono ?_); rintro e w30 ⟨rfl, hb⟩; refine ⟨_, rfl, ?_⟩; have n0_ := Aside0.mk (Kd.R_below (by (with_reducible repeat (first | apply Kd.R_alloc | apply Kd.R_drewN | apply Kd.R_drew)); exact HO256.out) hb); have n1_ := Aside0.mk (below_step (by repeat (first | (with_reducible first | exact HB.out | apply below_alloc | apply pw_below_drewN | apply below_drew1) | exact HB.out)) hb); clear HO256; clear HB; have HO256 := n0_; have HB := n1_; clear n0_ n1_; (try clear hb); (try clear hb2); (try clear hk); (try clear hi); obtain ⟨Ao31, co31, eo31⟩ := Kd.R_slice HO256.out; subst eo31) | ((with_reducible refine gate_callee (f := 13) rfl ?_); refine goesL_ (some 69) rfl rfl Tryd.func13 (by kernel_rfl) rfl #[.string t257] rfl (by (try simp only [List.map_toArray, List.map_cons, List.map_nil]); first | done | rfl | (simp only [List.length_drop, List.length_take]; rfl)) ?_; (with_reducible refine (path_Parse.calls t257 t263 t264 t265 _ (lay_below HLAY_.out (by repeat (first | (with_reducible first | exact HB.out | apply below_alloc | apply pw_below_drewN | apply below_drew1) | exact HB.out))) A15.out).mono ?_); rintro e w32 ⟨v266, rfl, ho0, hb⟩; refine ⟨_, rfl, ?_⟩; have n0_ := Aside0.mk (Kd.R_elder' (by (with_reducible repeat (first | apply Kd.R_alloc | apply Kd.R_drewN | apply Kd.R_drew)); exact HO256.out) (Kd.R_base ho0) hb); have n1_ := Aside0.mk (Kd.R_lower (Kd.R_new' ho0 (Kd.R_lt (by (with_reducible repeat (first | apply Kd.R_alloc | apply Kd.R_drewN | apply Kd.R_drew)); exact HO256.out))) (below_size (by repeat (first | (with_reducible first | exact HB.out | apply below_alloc | apply pw_below_drewN | apply below_drew1) | exact HB.out)))); have n2_ := Aside0.mk (below_step (by repeat (first | (with_reducible first | exact HB.out | apply below_alloc | apply pw_below_drewN | apply below_drew1) | exact HB.out)) hb); clear HO256; clear HB; have HO256 := n0_; have HO267 := n1_; have HB := n2_; clear n0_ n1_ n2_; (try clear hb); (try clear hb2); (try clear hk); (try clear hi); (try clear ho0); have p268 : 0 ≤ ((ji18) : Int) := of_decide_eq_true (by first | (with_reducible assumption) | assumption); have q268 : (ji18) < (t252.length : Int) := of_decide_eq_true (by first | (with_reducible assumption) | assumption); obtain ⟨ad268, e268, hx268_0⟩ := Kd.at_string (Kd.R_reads' HO256.out).2.2 (ji18) p268 q268; cases e268; replace p268 := eq_true p268; replace q268 := eq_true q268; have q33 : ((ji18) : Int) ≤ ((t252.length : Int) : Int) := of_decide_eq_true (by first | (with_reducible assumption) | assumption); obtain ⟨i033, hi033, _, hsz33, _⟩ := info_parts info9; have hroom33 : t252.length ≤ co31 := (Kd.R_reads' HO256.out).2.1; have hC33 : Kd.C Kd.string _ (some ad268) t252.length t252 := (Kd.R_reads' HO256.out).2.2; have hcut33 := cut_to (P := Tryd.prog) 24 9 .i64 Tryd.underlying24 hi033 (some ad268) t252.length co31 (ji18) (of_decide_eq_true (by first | (with_reducible assumption) | assumption)) q33 hroom33; have hr33 := Kd.C_take (m := ((ji18) : Int).toNat) hC33 (by omega); have hy33 : y269.length = ((ji18) : Int).toNat := (by rw [Ny269.out, List.length_take]; omega); rw [← Ny269.out] at hr33; rw [← hy33] at hcut33; have HR272 := Aside0.mk hr33; have HC272 := Aside0.mk (show y269.length ≤ co31 from by omega); clear hr33 hC33 hroom33 hi033 hsz33; have KY33 := Aside0.mk hy33; clear hy33; have KL33 := Aside0.mk (show ((ji18) : Int).toNat ≤ t252.length from by omega); replace q33 := eq_true q33; obtain ⟨Ao34, co34, eo34⟩ := Kd.R_slice HO267.out; subst eo34) | (go_at_call 15; (with_reducible refine (slabvaultlaw17_texts.calls k _ _ t263 _ _ y269 true _ ?side1 ?side2 ?side3 ?side4 A24.out).mono ?_); (case side1 => repeat (first | exact (Kd.R_reads' HO267.out).2.2 | (with_reducible refine Kd.C_alloc ?_ _) | (with_reducible refine Kd.C_drewN ?_ _) | (with_reducible refine Kd.C_drew ?_))); (case side2 => exact (Kd.R_reads' HO267.out).2.1); (case side3 => repeat (first | exact (by repeat (first | (with_reducible exact HR272.out) | (with_reducible refine Kd.C_alloc ?_ _) | (with_reducible refine Kd.C_drewN ?_ _) | (with_reducible refine Kd.C_drew ?_) | exact HR272.out)) | (with_reducible refine Kd.C_alloc ?_ _) | (with_reducible refine Kd.C_drewN ?_ _) | (with_reducible refine Kd.C_drew ?_))); (case side4 => exact HC272.out); rintro e w' ⟨rfl, ⟨nd, rfl⟩⟩) | (go_at_call 10; (with_reducible refine (path_Name.calls t258 true _ A26.out).mono ?_); rintro e w35 ⟨rfl, hb⟩; have n0_ := Aside0.mk (Kd.R_below (by (with_reducible repeat (first | apply Kd.R_alloc | apply Kd.R_drewN | apply Kd.R_drew)); exact HO256.out) hb); have n1_ := Aside0.mk (Kd.R_below (by (with_reducible repeat (first | apply Kd.R_alloc | apply Kd.R_drewN | apply Kd.R_drew)); exact HO267.out) hb); have n2_ := Aside0.mk (Kd.C_below (by repeat (first | (with_reducible exact HR272.out) | (with_reducible refine Kd.C_alloc ?_ _) | (with_reducible refine Kd.C_drewN ?_ _) | (with_reducible refine Kd.C_drew ?_) | exact HR272.out)) hb); have n3_ := Aside0.mk (below_step (by repeat (first | (with_reducible first | exact HB.out | apply below_alloc | apply pw_below_drewN | apply below_drew1) | exact HB.out)) hb); clear HO256; clear HO267; clear HR272; clear HB; have HO256 := n0_; have HO267 := n1_; have HR272 := n2_; have HB := n3_; clear n0_ n1_ n2_ n3_; (try clear hb); (try clear hb2); (try clear hk); (try clear hi)) | (go_at_call 12; (with_reducible refine (slabvaultlaw17_lives.calls k  t275 _ (lay_below HLAY_.out (by repeat (first | (with_reducible first | exact HB.out | apply below_alloc | apply pw_below_drewN | apply below_drew1) | exact HB.out))) A28.out).mono ?_); rintro e w36 ⟨rfl, hb⟩; have n0_ := Aside0.mk (Kd.R_below (by (with_reducible repeat (first | apply Kd.R_alloc | apply Kd.R_drewN | apply Kd.R_drew)); exact HO256.out) hb); have n1_ := Aside0.mk (Kd.R_below (by (with_reducible repeat (first | apply Kd.R_alloc | apply Kd.R_drewN | apply Kd.R_drew)); exact HO267.out) hb); have n2_ := Aside0.mk (Kd.C_below (by repeat (first | (with_reducible exact HR272.out) | (with_reducible refine Kd.C_alloc ?_ _) | (with_reducible refine Kd.C_drewN ?_ _) | (with_reducible refine Kd.C_drew ?_) | exact HR272.out)) hb); have n3_ := Aside0.mk (below_step (by repeat (first | (with_reducible first | exact HB.out | apply below_alloc | apply pw_below_drewN | apply below_drew1) | exact HB.out)) hb); clear HO256; clear HO267; clear HR272; clear HB; have HO256 := n0_; have HO267 := n1_; have HR272 := n2_; have HB := n3_; clear n0_ n1_ n2_ n3_; (try clear hb); (try clear hb2); (try clear hk); (try clear hi)))
                      go_ret
                      exact ⟨by first | rfl | (simp [errW_none, errW_some] <;> rfl) | (simp only [← hji18]; first | rfl | (simp [errW_none, errW_some] <;> rfl)) | (simp [*, errW_none, errW_some] <;> rfl), by repeat (first | (with_reducible first | exact HB.out | apply below_alloc | apply pw_below_drewN | apply below_drew1) | exact HB.out)⟩
                    · replace c27 := Bool.eq_false_iff.mpr c27
                      subst c27
                      have H1 : (none) = some r := by rw [if_neg (show ¬ (false = true) by decide)] at H; exact H
                      clear H
                      have H := H1
                      clear H1
                      exact absurd H (by simp)
                  · replace c25 := Bool.eq_false_iff.mpr c25
                    subst c25
                    have H1 : (none) = some r := by rw [if_neg (show ¬ (false = true) by decide)] at H; exact H
                    clear H
                    have H := H1
                    clear H1
                    exact absurd H (by simp)
                · rw [if_neg c23] at H
                  exact absurd H (by simp)
              · rw [if_neg c21] at H
                exact absurd H (by simp)
            · rw [if_neg c20] at H
              exact absurd H (by simp)
          · rw [if_neg c19] at H
            exact absurd H (by simp)
        · rw [if_neg c17] at H
          exact absurd H (by simp)
      · rw [if_neg c16] at H
        exact absurd H (by simp)
  · rw [if_neg c4] at H
    have c4b0 : (t254 == 0) = false := beq_eq_false_iff_ne.mpr c4
    have c4b1 : (t254 != 0) = true := bne_iff_ne.mpr c4
    by_cases c37 : t260 = t254
    · rw [if_pos c37] at H
      have c37b0 : (t260 == t254) = true := beq_iff_eq.mpr c37
      have c37b1 : (t260 != t254) = false := bne_eq_false_iff_eq.mpr c37
      clear c37
      by_cases c38 : t259 = t253
      · rw [if_pos c38] at H
        have c38b0 : (t259 == t253) = true := beq_iff_eq.mpr c38
        have c38b1 : (t259 != t253) = false := bne_eq_false_iff_eq.mpr c38
        clear c38
        by_cases c39 : t257.toList = ([] : List UInt8)
        · rw [if_pos c39] at H
          have c39b0 : (t257.toList == ([] : List UInt8)) = true := beq_iff_eq.mpr c39
          have c39b1 : (t257.toList != ([] : List UInt8)) = false := bne_eq_false_iff_eq.mpr c39
          clear c39
          by_cases c40 : t258.toList = ([] : List UInt8)
          · rw [if_pos c40] at H
            have c40b0 : (t258.toList == ([] : List UInt8)) = true := beq_iff_eq.mpr c40
            have c40b1 : (t258.toList != ([] : List UInt8)) = false := bne_eq_false_iff_eq.mpr c40
            clear c40
            replace H := Option.bind_eq_some_iff.mp H
            obtain ⟨t261, A410, H⟩ := H
            replace H : (some t261) = some r := H
            have A41 := Aside0.mk A410
            clear A410
            obtain rfl := Option.some.inj H
            go_enter Tryd.func9, Tryd.ntmps9
            go_wp2_with (first | ((with_reducible refine gate_callee (f := 13) rfl ?_); refine goesL_ (some 15) rfl rfl Tryd.func13 (by kernel_rfl) rfl #[.string a0] rfl (by (try simp only [List.map_toArray, List.map_cons, List.map_nil]); first | done | rfl | (simp only [List.length_drop, List.length_take]; rfl)) ?_; (with_reducible refine (path_Parse.calls a0 t252 t253 t254 _ (lay_below HLAY_.out (by repeat (first | (with_reducible first | exact HB.out | apply below_alloc | apply pw_below_drewN | apply below_drew1) | exact HB.out))) A2.out).mono ?_); rintro e w42 ⟨v255, rfl, ho0, hb⟩; refine ⟨_, rfl, ?_⟩; have n0_ := Aside0.mk (Kd.R_lower ho0 (below_size (by repeat (first | (with_reducible first | exact HB.out | apply below_alloc | apply pw_below_drewN | apply below_drew1) | exact HB.out)))); have n1_ := Aside0.mk (below_step (by repeat (first | (with_reducible first | exact HB.out | apply below_alloc | apply pw_below_drewN | apply below_drew1) | exact HB.out)) hb); clear HB; have HO256 := n0_; have HB := n1_; clear n0_ n1_; (try clear hb); (try clear hb2); (try clear hk); (try clear hi); (try clear ho0)) | ((with_reducible refine gate_callee (f := 18) rfl ?_); refine goesL_ (some 21) rfl rfl Tryd.func18 (by kernel_rfl) rfl #[.string a0] rfl (by (try simp only [List.map_toArray, List.map_cons, List.map_nil]); first | done | rfl | (simp only [List.length_drop, List.length_take]; rfl)) ?_; (with_reducible refine (path_Split.calls a0 t257 t258 t259 t260 _ (lay_below HLAY_.out (by repeat (first | (with_reducible first | exact HB.out | apply below_alloc | apply pw_below_drewN | apply below_drew1) | exact HB.out))) A3.out).mono ?_); rintro e w43 ⟨rfl, hb⟩; refine ⟨_, rfl, ?_⟩; have n0_ := Aside0.mk (Kd.R_below (by (with_reducible repeat (first | apply Kd.R_alloc | apply Kd.R_drewN | apply Kd.R_drew)); exact HO256.out) hb); have n1_ := Aside0.mk (below_step (by repeat (first | (with_reducible first | exact HB.out | apply below_alloc | apply pw_below_drewN | apply below_drew1) | exact HB.out)) hb); clear HO256; clear HB; have HO256 := n0_; have HB := n1_; clear n0_ n1_; (try clear hb); (try clear hb2); (try clear hk); (try clear hi)) | (go_at_call 12; (with_reducible refine (slabvaultlaw17_lives.calls k  t261 _ (lay_below HLAY_.out (by repeat (first | (with_reducible first | exact HB.out | apply below_alloc | apply pw_below_drewN | apply below_drew1) | exact HB.out))) A41.out).mono ?_); rintro e w44 ⟨rfl, hb⟩; have n0_ := Aside0.mk (Kd.R_below (by (with_reducible repeat (first | apply Kd.R_alloc | apply Kd.R_drewN | apply Kd.R_drew)); exact HO256.out) hb); have n1_ := Aside0.mk (below_step (by repeat (first | (with_reducible first | exact HB.out | apply below_alloc | apply pw_below_drewN | apply below_drew1) | exact HB.out)) hb); clear HO256; clear HB; have HO256 := n0_; have HB := n1_; clear n0_ n1_; (try clear hb); (try clear hb2); (try clear hk); (try clear hi)))
            go_ret
            exact ⟨by first | rfl | (simp [errW_none, errW_some] <;> rfl) | (simp [*, errW_none, errW_some] <;> rfl), by repeat (first | (with_reducible first | exact HB.out | apply below_alloc | apply pw_below_drewN | apply below_drew1) | exact HB.out)⟩
          · rw [if_neg c40] at H
            exact absurd H (by simp)
        · rw [if_neg c39] at H
          exact absurd H (by simp)
      · rw [if_neg c38] at H
        exact absurd H (by simp)
    · rw [if_neg c37] at H
      exact absurd H (by simp)
def slabvaultlaw17_PathLast.Pure : Prop := ∀ (a0 : ByteArray), a0.size ≤ 140737488351232 → ∃ k, slabvaultlaw17_PathLast.f k a0 = some true
end Go.Proofs.YtbmginkdlcpnpaaDoor.Wk
end
section
namespace Go.Proofs.YtbmginkdlcpnpaaDoor.Wk
open Go.RowKit Go.Lib Go.Proofs.YtbmginkdlcpnpaaDoorW.PrintWords Go.Proofs.YtbmginkdlcpnpaaDoorW.PrintLast Go.Proofs.YtbmginkdlcpnpaaDoorW.PrintMore
set_option linter.unusedVariables false
theorem parseP_ok {s : ByteArray} {l : List ByteArray} (h : parseF s = .ok l) : parseP s = (l, 0, 0) := by unfold parseP; rw [h]
theorem parseP_err {s : ByteArray} {a : Nat} {y : Int} (h : parseF s = .error (a, y)) : parseP s = ([], (a : Int), y) := by unfold parseP; rw [h]
theorem joinP_ok {l : List ByteArray} {s : ByteArray} (h : joinF l = .ok s) : joinP l = (s, 0, 0) := by unfold joinP; rw [h]
theorem last_pure (s : ByteArray) : ∃ k, slabvaultlaw17_PathLast.f k s = some true := by
  obtain ⟨n, hn⟩ : ∃ n : Nat, 5000 ≤ n := ⟨5000, Nat.le_refl _⟩
  refine ⟨n, ?_⟩
  have hlives := lives_ok n (by omega)
  have he : (⟨#[]⟩ : ByteArray).toList = [] := by rw [ByteArray.toList_eq]
  unfold slabvaultlaw17_PathLast.f path_Parse.f path_Split.f path_Name.f
  simp only [Option.bind_some]
  cases hf : parseF s with
  | error p =>
    obtain ⟨x, y⟩ := p
    have := parseF_err s x y hf
    have hsp : splitP s = (⟨#[]⟩, ⟨#[]⟩, (x : Int), y) := by unfold splitP; rw [hf]
    rw [parseP_err hf, hsp]
    simp only
    rw [if_neg (by omega), hlives]
    simp [he]
  | ok l =>
    obtain ⟨hg, h16, hsl, hs⟩ := parse_facts hf
    rw [parseP_ok hf]
    simp only [if_true]
    by_cases h0 : l.length = 0
    · have hsp : splitP s = (⟨#[]⟩, ⟨#[]⟩, 0, 11) := by unfold splitP; rw [hf]; simp only; rw [if_pos h0]
      rw [hsp]
      simp only
      rw [if_pos (by omega), hlives]
      simp [he]
    · have hsp : splitP s = ((joinP (l.take (l.length - 1))).1, rdOf ByteArray.empty l ((l.length : Int) - 1), 0, 0) := by unfold splitP; rw [hf]; simp only; rw [if_neg h0]
      have hg2 : ∀ y ∈ l.take (l.length - 1), goodName y = true := fun y hy => hg y (List.mem_of_mem_take hy)
      have hl2 : (l.take (l.length - 1)).length = l.length - 1 := by rw [List.length_take]; omega
      have hsl2 : (slashed (l.take (l.length - 1))).length ≤ 1024 := by
        rw [slashed_eq]
        split
        · simp
        · have h1 : slashes l = slashes (l.take (l.length - 1)) ++ slashes (l.drop (l.length - 1)) := by rw [← slashes_append, List.take_append_drop]
          have hne : l ≠ [] := fun e => h0 (by rw [e]; rfl)
          rw [slashed_eq, if_neg hne, h1, List.length_append] at hsl
          omega
      have hj := join_of_good hg2 (by omega) hsl2
      have hw : wrap64 ((l.length : Int) - 1) = (l.length : Int) - 1 := by unfold wrap64; omega
      have hlast : goodName (rdOf ByteArray.empty l ((l.length : Int) - 1)) = true := by
        have h1 : ((l.length : Int) - 1) = ((l.length - 1 : Nat) : Int) := by omega
        rw [h1, rdOf_nat l (l.length - 1) (by omega)]
        exact hg _ (List.getElem_mem _)
      rw [hsp, joinP_ok hj, parseP_ok (parse_join hj)]
      simp only [if_true]
      rw [hw, if_neg (by omega), if_pos (by omega), if_pos (by omega), show ((l.length : Int) - 1).toNat = l.length - 1 by omega, texts_refl _ (by omega) n (by omega)]
      simp only [if_true]
      rw [if_pos (by omega)]
      simp only [Option.bind_some, if_true]
      rw [hlast]
      simp only [if_true]
      rw [hlives]
      rfl
end Go.Proofs.YtbmginkdlcpnpaaDoor.Wk
end
