-- Texts that the row SpacePoints leans on, joined by wip/tools/mkclaim.py: Wk41, Wk6, Wk20, Plain12, Plain12b, Plain12c, Plain12d, Wk22, Wk23, Wk24, Wk25, Wk26, Wk27, Plain12e, Wkslabvaultref12_Tuples, Wk29, Wkslabvaultref12_Places, Plain12f, Plain12g, PureSpacePoints
import Derived.Test.YtjbjofmcmjojlaaCSpacePoints2
section
namespace Go.Proofs.Ytjbjofmcmjojlaa.Wk
open Go.RowKit Go.Proofs.YtjbjofmcmjojlaaW.PrintWords Go.Proofs.YtjbjofmcmjojlaaW.PrintLast Go.Proofs.YtjbjofmcmjojlaaW.PrintMore
attribute [local go_sem] max2_int min2_int max_two min_two max_three min_three max_four min_four
set_option linter.unusedVariables false
set_option linter.unusedSimpArgs false
def slabvaultlaw12_SpacePoints.j0 : Nat → List Int → Int → List Int → Bool → Int → List (List Int) → Option (Bool)
  | 0, _, _, _, _, _, _ => none
  | k + 1, x0, x6, x8, x38, x214000, x214001 => if x38 = true then (some false) else (if x6 = 0 then ((space_Places.f k x0 x214000 x214001 ([] : List Int) ([] : List Int) ([] : List Int) ([] : List Int)).bind fun bt219 => (if bt219.2 = 0 then ((slabvaultlaw12_ints.f k x8 bt219.1).bind fun t223 => (if t223 = true then ((slabvaultlaw12_lives.f k).bind fun t224 => (some t224)) else (some false))) else (some false))) else ((slabvaultlaw12_lives.f k).bind fun t218 => (some t218)))
def slabvaultlaw12_SpacePoints.f (k : Nat) (l0 : List Int) (a1_0 : Int) (l1_1 : List (List Int)) (l1_2 : List Int) (l1_3 : List Int) (l1_4 : List Int) (l1_5 : List Int) : Option (Bool) := (slabvaultlaw12_great.f k a1_0 l1_1 l1_2 l1_3 l1_4 l1_5).bind fun t207 => (if t207 = true then ((slabvaultlaw12_lives.f k).bind fun t208 => (some t208)) else ((space_Tuples.f k l0 a1_0 l1_1 l1_2 l1_3 l1_4 l1_5).bind fun bt209 => ((space_Places.f k l0 a1_0 l1_1 l1_2 l1_3 l1_4 l1_5).bind fun bt214 => (if bt209.2 = bt214.2 then (slabvaultlaw12_SpacePoints.j0 k l0 bt209.2 bt214.1 ((bt214.1.length : Int) != (bt209.1.length : Int)) 2 bt209.1) else (slabvaultlaw12_SpacePoints.j0 k l0 bt209.2 bt214.1 true 2 bt209.1)))))
set_option maxHeartbeats 8000000 in
set_option maxRecDepth 100000 in
theorem slabvaultlaw12_SpacePoints.calls (k : Nat) (A0 : Option Addr) (c0 : Nat) (l0 : List Int) (a1_0 : Int) (A1_1 : Option Addr) (c1_1 : Nat) (l1_1 : List (List Int)) (A1_2 : Option Addr) (c1_2 : Nat) (l1_2 : List Int) (A1_3 : Option Addr) (c1_3 : Nat) (l1_3 : List Int) (A1_4 : Option Addr) (c1_4 : Nat) (l1_4 : List Int) (A1_5 : Option Addr) (c1_5 : Nat) (l1_5 : List Int) (r : Bool) (w : World) (hr0 : Kd.C (Kd.int .i64) w A0 l0.length l0) (hc0 : l0.length ≤ c0) (hr1_1 : Kd.C (Kd.slice 3 (Kd.int .i64)) w A1_1 l1_1.length l1_1) (hc1_1 : l1_1.length ≤ c1_1) (hr1_2 : Kd.C (Kd.int .i64) w A1_2 l1_2.length l1_2) (hc1_2 : l1_2.length ≤ c1_2) (hr1_3 : Kd.C (Kd.int .i64) w A1_3 l1_3.length l1_3) (hc1_3 : l1_3.length ≤ c1_3) (hr1_4 : Kd.C (Kd.int .i64) w A1_4 l1_4.length l1_4) (hc1_4 : l1_4.length ≤ c1_4) (hr1_5 : Kd.C (Kd.int .i64) w A1_5 l1_5.length l1_5) (hc1_5 : l1_5.length ≤ c1_5) (h : slabvaultlaw12_SpacePoints.f k l0 a1_0 l1_1 l1_2 l1_3 l1_4 l1_5 = some r) :
    Calls Try.prog 9 #[.slice A0 l0.length c0, .agg #[.int .i64 a1_0, .slice A1_1 l1_1.length c1_1, .slice A1_2 l1_2.length c1_2, .slice A1_3 l1_3.length c1_3, .slice A1_4 l1_4.length c1_4, .slice A1_5 l1_5.length c1_5]] w fun e w' => e = .returned (.bool r) ∧ Below w.heap.size w w' := by
  have hu33 := Try.underlying33
  have HR0 := Aside0.mk hr0
  have HC0 := Aside0.mk hc0
  clear hr0 hc0
  have HR1_1 := Aside0.mk hr1_1
  have HC1_1 := Aside0.mk hc1_1
  clear hr1_1 hc1_1
  have HR1_2 := Aside0.mk hr1_2
  have HC1_2 := Aside0.mk hc1_2
  clear hr1_2 hc1_2
  have HR1_3 := Aside0.mk hr1_3
  have HC1_3 := Aside0.mk hc1_3
  clear hr1_3 hc1_3
  have HR1_4 := Aside0.mk hr1_4
  have HC1_4 := Aside0.mk hc1_4
  clear hr1_4 hc1_4
  have HR1_5 := Aside0.mk hr1_5
  have HC1_5 := Aside0.mk hc1_5
  clear hr1_5 hc1_5
  have HB := Aside0.mk (Below.refl w.heap.size w)
  have H : ((slabvaultlaw12_great.f k a1_0 l1_1 l1_2 l1_3 l1_4 l1_5).bind fun t207 => (if t207 = true then ((slabvaultlaw12_lives.f k).bind fun t208 => (some t208)) else ((space_Tuples.f k l0 a1_0 l1_1 l1_2 l1_3 l1_4 l1_5).bind fun bt209 => ((space_Places.f k l0 a1_0 l1_1 l1_2 l1_3 l1_4 l1_5).bind fun bt214 => (if bt209.2 = bt214.2 then (slabvaultlaw12_SpacePoints.j0 k l0 bt209.2 bt214.1 ((bt214.1.length : Int) != (bt209.1.length : Int)) 2 bt209.1) else (slabvaultlaw12_SpacePoints.j0 k l0 bt209.2 bt214.1 true 2 bt209.1)))))) = some r := h
  clear h
  replace H := Option.bind_eq_some_iff.mp H
  obtain ⟨t207, A30, H⟩ := H
  replace H : (if t207 = true then ((slabvaultlaw12_lives.f k).bind fun t208 => (some t208)) else ((space_Tuples.f k l0 a1_0 l1_1 l1_2 l1_3 l1_4 l1_5).bind fun bt209 => ((space_Places.f k l0 a1_0 l1_1 l1_2 l1_3 l1_4 l1_5).bind fun bt214 => (if bt209.2 = bt214.2 then (slabvaultlaw12_SpacePoints.j0 k l0 bt209.2 bt214.1 ((bt214.1.length : Int) != (bt209.1.length : Int)) 2 bt209.1) else (slabvaultlaw12_SpacePoints.j0 k l0 bt209.2 bt214.1 true 2 bt209.1))))) = some r := H
  have A3 := Aside0.mk A30
  clear A30
  by_cases c4 : t207 = true
  · subst c4
    have H1 : ((slabvaultlaw12_lives.f k).bind fun t208 => (some t208)) = some r := by rw [if_pos rfl] at H; exact H
    clear H
    have H := H1
    clear H1
    replace H := Option.bind_eq_some_iff.mp H
    obtain ⟨t208, A50, H⟩ := H
    replace H : (some t208) = some r := H
    have A5 := Aside0.mk A50
    clear A50
    obtain rfl := Option.some.inj H
    go_enter Try.func9, Try.ntmps9
    go_wp2_with (first | ((with_reducible refine gate_dst (N := 3) rfl ?_); (try (refine gate_guard (by rfl) ?_; dsimp only)); refine box_event ?hg (N := 3) ?hd (cs := #[.int .i64 a1_0, .slice A1_1 l1_1.length c1_1, .slice A1_2 l1_2.length c1_2, .slice A1_3 l1_3.length c1_3, .slice A1_4 l1_4.length c1_4, .slice A1_5 l1_5.length c1_5]) (t := 33) ?hr ?_; (case hd => rfl); (case hg => rfl); (case hr => first | (go_simp; done) | (go_simp; rfl)); intro gb206 hg w6 hbox hb; have n0_ := Aside0.mk (below_step (by repeat (first | (with_reducible first | exact HB.out | apply below_alloc | apply pw_below_drewN | apply below_drew1) | exact HB.out)) hb); have n1_ := Aside0.mk (hbox); have n2_ := Aside0.mk ((by rw [hg]; exact (below_size (by repeat (first | (with_reducible first | exact HB.out | apply below_alloc | apply pw_below_drewN | apply below_drew1) | exact HB.out))) : w.heap.size ≤ gb206)); have n3_ := Aside0.mk ((by rw [hg]; exact (below_size (by repeat (first | (with_reducible first | exact HB.out | apply below_alloc | apply pw_below_drewN | apply below_drew1) | exact HB.out))) : w.heap.size ≤ gb206)); clear HB; have HB := n0_; have BK206 := n1_; have GW206 := n2_; have GE206 := n3_; clear n0_ n1_ n2_ n3_; clear hb hbox hg; have hcz7_0 : w6.cell? ⟨gb206, 0, none⟩ = some (.int .i64 a1_0) := (blk_cell BK206.out 0).trans rfl; have hcz7_1 : w6.cell? ⟨gb206, 1, none⟩ = some (.slice A1_1 l1_1.length c1_1) := (blk_cell BK206.out 1).trans rfl; have hcz7_2 : w6.cell? ⟨gb206, 2, none⟩ = some (.slice A1_2 l1_2.length c1_2) := (blk_cell BK206.out 2).trans rfl; have hcz7_3 : w6.cell? ⟨gb206, 3, none⟩ = some (.slice A1_3 l1_3.length c1_3) := (blk_cell BK206.out 3).trans rfl; have hcz7_4 : w6.cell? ⟨gb206, 4, none⟩ = some (.slice A1_4 l1_4.length c1_4) := (blk_cell BK206.out 4).trans rfl; have hcz7_5 : w6.cell? ⟨gb206, 5, none⟩ = some (.slice A1_5 l1_5.length c1_5) := (blk_cell BK206.out 5).trans rfl; have hfz7_0 := blk_frozen BK206.out 0; have hfz7_1 := blk_frozen BK206.out 1; have hfz7_2 := blk_frozen BK206.out 2; have hfz7_3 := blk_frozen BK206.out 3; have hfz7_4 := blk_frozen BK206.out 4; have hfz7_5 := blk_frozen BK206.out 5) | ((with_reducible refine gate_callee (f := 14) rfl ?_); refine goesL_ (some 13) rfl rfl Try.func14 (by kernel_rfl) rfl #[.agg #[.int .i64 a1_0, .slice A1_1 l1_1.length c1_1, .slice A1_2 l1_2.length c1_2, .slice A1_3 l1_3.length c1_3, .slice A1_4 l1_4.length c1_4, .slice A1_5 l1_5.length c1_5]] rfl (by (try simp only [List.map_toArray, List.map_cons, List.map_nil]); first | done | rfl | (simp only [List.length_drop, List.length_take]; rfl)) ?_; (with_reducible refine (slabvaultlaw12_great.calls k a1_0 _ _ l1_1 _ _ l1_2 _ _ l1_3 _ _ l1_4 _ _ l1_5 true _ ?side1 ?side2 ?side3 ?side4 ?side5 ?side6 ?side7 ?side8 ?side9 ?side10 A3.out).mono ?_); (case side1 => repeat (first | exact (Kd.C_below HR1_1.out HB.out) | (with_reducible refine Kd.C_alloc ?_ _) | (with_reducible refine Kd.C_drewN ?_ _) | (with_reducible refine Kd.C_drew ?_))); (case side2 => exact HC1_1.out); (case side3 => repeat (first | exact (Kd.C_below HR1_2.out HB.out) | (with_reducible refine Kd.C_alloc ?_ _) | (with_reducible refine Kd.C_drewN ?_ _) | (with_reducible refine Kd.C_drew ?_))); (case side4 => exact HC1_2.out); (case side5 => repeat (first | exact (Kd.C_below HR1_3.out HB.out) | (with_reducible refine Kd.C_alloc ?_ _) | (with_reducible refine Kd.C_drewN ?_ _) | (with_reducible refine Kd.C_drew ?_))); (case side6 => exact HC1_3.out); (case side7 => repeat (first | exact (Kd.C_below HR1_4.out HB.out) | (with_reducible refine Kd.C_alloc ?_ _) | (with_reducible refine Kd.C_drewN ?_ _) | (with_reducible refine Kd.C_drew ?_))); (case side8 => exact HC1_4.out); (case side9 => repeat (first | exact (Kd.C_below HR1_5.out HB.out) | (with_reducible refine Kd.C_alloc ?_ _) | (with_reducible refine Kd.C_drewN ?_ _) | (with_reducible refine Kd.C_drew ?_))); (case side10 => exact HC1_5.out); rintro e w8 ⟨rfl, hb⟩; refine ⟨_, rfl, ?_⟩; have n0_ := Aside0.mk (blk_below (g := gb206) (o := .cells #[.int .i64 a1_0, .slice A1_1 l1_1.length c1_1, .slice A1_2 l1_2.length c1_2, .slice A1_3 l1_3.length c1_3, .slice A1_4 l1_4.length c1_4, .slice A1_5 l1_5.length c1_5] 33 (0, 0)) (by (with_reducible repeat (first | refine blk_drewN ?_ _ | refine blk_drew ?_ | refine blk_alloc ?_ _)); exact BK206.out) hb); have n1_ := Aside0.mk (below_step (by repeat (first | (with_reducible first | exact HB.out | apply below_alloc | apply pw_below_drewN | apply below_drew1 | refine below_set ?_ GE206.out) | exact HB.out)) hb); clear BK206; clear HB; have BK206 := n0_; have HB := n1_; clear n0_ n1_; (try clear hb); (try clear hb2); (try clear hk); (try clear hi)) | ((with_reducible refine gate_callee (f := 13) rfl ?_); refine goesL_ (some 14) rfl rfl Try.func13 (by kernel_rfl) rfl #[] rfl (by (try simp only [List.map_toArray, List.map_cons, List.map_nil]); first | done | rfl | (simp only [List.length_drop, List.length_take]; rfl)) ?_; (with_reducible refine (slabvaultlaw12_lives.calls k  t208 _ A5.out).mono ?_); rintro e w9 ⟨rfl, hb⟩; refine ⟨_, rfl, ?_⟩; have n0_ := Aside0.mk (blk_below (g := gb206) (o := .cells #[.int .i64 a1_0, .slice A1_1 l1_1.length c1_1, .slice A1_2 l1_2.length c1_2, .slice A1_3 l1_3.length c1_3, .slice A1_4 l1_4.length c1_4, .slice A1_5 l1_5.length c1_5] 33 (0, 0)) (by (with_reducible repeat (first | refine blk_drewN ?_ _ | refine blk_drew ?_ | refine blk_alloc ?_ _)); exact BK206.out) hb); have n1_ := Aside0.mk (below_step (by repeat (first | (with_reducible first | exact HB.out | apply below_alloc | apply pw_below_drewN | apply below_drew1 | refine below_set ?_ GE206.out) | exact HB.out)) hb); clear BK206; clear HB; have BK206 := n0_; have HB := n1_; clear n0_ n1_; (try clear hb); (try clear hb2); (try clear hk); (try clear hi)))
    go_ret
    exact ⟨by first | rfl | (simp [errW_none, errW_some] <;> rfl) | (simp [*, errW_none, errW_some] <;> rfl), by repeat (first | (with_reducible first | exact HB.out | apply below_alloc | apply pw_below_drewN | apply below_drew1 | refine below_set ?_ GE206.out) | exact HB.out)⟩
  · replace c4 := Bool.eq_false_iff.mpr c4
    subst c4
    have H1 : ((space_Tuples.f k l0 a1_0 l1_1 l1_2 l1_3 l1_4 l1_5).bind fun bt209 => ((space_Places.f k l0 a1_0 l1_1 l1_2 l1_3 l1_4 l1_5).bind fun bt214 => (if bt209.2 = bt214.2 then (slabvaultlaw12_SpacePoints.j0 k l0 bt209.2 bt214.1 ((bt214.1.length : Int) != (bt209.1.length : Int)) 2 bt209.1) else (slabvaultlaw12_SpacePoints.j0 k l0 bt209.2 bt214.1 true 2 bt209.1)))) = some r := by rw [if_neg (show ¬ (false = true) by decide)] at H; exact H
    clear H
    have H := H1
    clear H1
    replace H := Option.bind_eq_some_iff.mp H
    obtain ⟨⟨t209, t212⟩, A100, H⟩ := H
    replace H : ((space_Places.f k l0 a1_0 l1_1 l1_2 l1_3 l1_4 l1_5).bind fun bt214 => (if t212 = bt214.2 then (slabvaultlaw12_SpacePoints.j0 k l0 t212 bt214.1 ((bt214.1.length : Int) != (t209.length : Int)) 2 t209) else (slabvaultlaw12_SpacePoints.j0 k l0 t212 bt214.1 true 2 t209))) = some r := H
    have A10 := Aside0.mk A100
    clear A100
    replace H := Option.bind_eq_some_iff.mp H
    obtain ⟨⟨t214, t217⟩, A110, H⟩ := H
    replace H : (if t212 = t217 then (slabvaultlaw12_SpacePoints.j0 k l0 t212 t214 ((t214.length : Int) != (t209.length : Int)) 2 t209) else (slabvaultlaw12_SpacePoints.j0 k l0 t212 t214 true 2 t209)) = some r := H
    have A11 := Aside0.mk A110
    clear A110
    have HC12 := Aside0.mk H
    clear H
    go_enter Try.func9, Try.ntmps9
    go_upto_region 6 with (first | ((with_reducible refine gate_dst (N := 3) rfl ?_); (try (refine gate_guard (by rfl) ?_; dsimp only)); refine box_event ?hg (N := 3) ?hd (cs := #[.int .i64 a1_0, .slice A1_1 l1_1.length c1_1, .slice A1_2 l1_2.length c1_2, .slice A1_3 l1_3.length c1_3, .slice A1_4 l1_4.length c1_4, .slice A1_5 l1_5.length c1_5]) (t := 33) ?hr ?_; (case hd => rfl); (case hg => rfl); (case hr => first | (go_simp; done) | (go_simp; rfl)); intro gb206 hg w13 hbox hb; have n0_ := Aside0.mk (below_step (by repeat (first | (with_reducible first | exact HB.out | apply below_alloc | apply pw_below_drewN | apply below_drew1) | exact HB.out)) hb); have n1_ := Aside0.mk (hbox); have n2_ := Aside0.mk ((by rw [hg]; exact (below_size (by repeat (first | (with_reducible first | exact HB.out | apply below_alloc | apply pw_below_drewN | apply below_drew1) | exact HB.out))) : w.heap.size ≤ gb206)); have n3_ := Aside0.mk ((by rw [hg]; exact (below_size (by repeat (first | (with_reducible first | exact HB.out | apply below_alloc | apply pw_below_drewN | apply below_drew1) | exact HB.out))) : w.heap.size ≤ gb206)); clear HB; have HB := n0_; have BK206 := n1_; have GW206 := n2_; have GE206 := n3_; clear n0_ n1_ n2_ n3_; clear hb hbox hg; have hcz14_0 : w13.cell? ⟨gb206, 0, none⟩ = some (.int .i64 a1_0) := (blk_cell BK206.out 0).trans rfl; have hcz14_1 : w13.cell? ⟨gb206, 1, none⟩ = some (.slice A1_1 l1_1.length c1_1) := (blk_cell BK206.out 1).trans rfl; have hcz14_2 : w13.cell? ⟨gb206, 2, none⟩ = some (.slice A1_2 l1_2.length c1_2) := (blk_cell BK206.out 2).trans rfl; have hcz14_3 : w13.cell? ⟨gb206, 3, none⟩ = some (.slice A1_3 l1_3.length c1_3) := (blk_cell BK206.out 3).trans rfl; have hcz14_4 : w13.cell? ⟨gb206, 4, none⟩ = some (.slice A1_4 l1_4.length c1_4) := (blk_cell BK206.out 4).trans rfl; have hcz14_5 : w13.cell? ⟨gb206, 5, none⟩ = some (.slice A1_5 l1_5.length c1_5) := (blk_cell BK206.out 5).trans rfl; have hfz14_0 := blk_frozen BK206.out 0; have hfz14_1 := blk_frozen BK206.out 1; have hfz14_2 := blk_frozen BK206.out 2; have hfz14_3 := blk_frozen BK206.out 3; have hfz14_4 := blk_frozen BK206.out 4; have hfz14_5 := blk_frozen BK206.out 5) | ((with_reducible refine gate_callee (f := 14) rfl ?_); refine goesL_ (some 13) rfl rfl Try.func14 (by kernel_rfl) rfl #[.agg #[.int .i64 a1_0, .slice A1_1 l1_1.length c1_1, .slice A1_2 l1_2.length c1_2, .slice A1_3 l1_3.length c1_3, .slice A1_4 l1_4.length c1_4, .slice A1_5 l1_5.length c1_5]] rfl (by (try simp only [List.map_toArray, List.map_cons, List.map_nil]); first | done | rfl | (simp only [List.length_drop, List.length_take]; rfl)) ?_; (with_reducible refine (slabvaultlaw12_great.calls k a1_0 _ _ l1_1 _ _ l1_2 _ _ l1_3 _ _ l1_4 _ _ l1_5 false _ ?side1 ?side2 ?side3 ?side4 ?side5 ?side6 ?side7 ?side8 ?side9 ?side10 A3.out).mono ?_); (case side1 => repeat (first | exact (Kd.C_below HR1_1.out HB.out) | (with_reducible refine Kd.C_alloc ?_ _) | (with_reducible refine Kd.C_drewN ?_ _) | (with_reducible refine Kd.C_drew ?_))); (case side2 => exact HC1_1.out); (case side3 => repeat (first | exact (Kd.C_below HR1_2.out HB.out) | (with_reducible refine Kd.C_alloc ?_ _) | (with_reducible refine Kd.C_drewN ?_ _) | (with_reducible refine Kd.C_drew ?_))); (case side4 => exact HC1_2.out); (case side5 => repeat (first | exact (Kd.C_below HR1_3.out HB.out) | (with_reducible refine Kd.C_alloc ?_ _) | (with_reducible refine Kd.C_drewN ?_ _) | (with_reducible refine Kd.C_drew ?_))); (case side6 => exact HC1_3.out); (case side7 => repeat (first | exact (Kd.C_below HR1_4.out HB.out) | (with_reducible refine Kd.C_alloc ?_ _) | (with_reducible refine Kd.C_drewN ?_ _) | (with_reducible refine Kd.C_drew ?_))); (case side8 => exact HC1_4.out); (case side9 => repeat (first | exact (Kd.C_below HR1_5.out HB.out) | (with_reducible refine Kd.C_alloc ?_ _) | (with_reducible refine Kd.C_drewN ?_ _) | (with_reducible refine Kd.C_drew ?_))); (case side10 => exact HC1_5.out); rintro e w15 ⟨rfl, hb⟩; refine ⟨_, rfl, ?_⟩; have n0_ := Aside0.mk (blk_below (g := gb206) (o := .cells #[.int .i64 a1_0, .slice A1_1 l1_1.length c1_1, .slice A1_2 l1_2.length c1_2, .slice A1_3 l1_3.length c1_3, .slice A1_4 l1_4.length c1_4, .slice A1_5 l1_5.length c1_5] 33 (0, 0)) (by (with_reducible repeat (first | refine blk_drewN ?_ _ | refine blk_drew ?_ | refine blk_alloc ?_ _)); exact BK206.out) hb); have n1_ := Aside0.mk (below_step (by repeat (first | (with_reducible first | exact HB.out | apply below_alloc | apply pw_below_drewN | apply below_drew1 | refine below_set ?_ GE206.out) | exact HB.out)) hb); clear BK206; clear HB; have BK206 := n0_; have HB := n1_; clear n0_ n1_; (try clear hb); (try clear hb2); (try clear hk); (try clear hi); have hcz16_0 : w15.cell? ⟨gb206, 0, none⟩ = some (.int .i64 a1_0) := (blk_cell BK206.out 0).trans rfl; have hcz16_1 : w15.cell? ⟨gb206, 1, none⟩ = some (.slice A1_1 l1_1.length c1_1) := (blk_cell BK206.out 1).trans rfl; have hcz16_2 : w15.cell? ⟨gb206, 2, none⟩ = some (.slice A1_2 l1_2.length c1_2) := (blk_cell BK206.out 2).trans rfl; have hcz16_3 : w15.cell? ⟨gb206, 3, none⟩ = some (.slice A1_3 l1_3.length c1_3) := (blk_cell BK206.out 3).trans rfl; have hcz16_4 : w15.cell? ⟨gb206, 4, none⟩ = some (.slice A1_4 l1_4.length c1_4) := (blk_cell BK206.out 4).trans rfl; have hcz16_5 : w15.cell? ⟨gb206, 5, none⟩ = some (.slice A1_5 l1_5.length c1_5) := (blk_cell BK206.out 5).trans rfl; have hfz16_0 := blk_frozen BK206.out 0; have hfz16_1 := blk_frozen BK206.out 1; have hfz16_2 := blk_frozen BK206.out 2; have hfz16_3 := blk_frozen BK206.out 3; have hfz16_4 := blk_frozen BK206.out 4; have hfz16_5 := blk_frozen BK206.out 5) | ((with_reducible refine gate_callee (f := 22) rfl ?_); refine goesL_ (some 18) rfl rfl Try.func22 (by kernel_rfl) rfl #[.slice A0 l0.length c0, .agg #[.int .i64 a1_0, .slice A1_1 l1_1.length c1_1, .slice A1_2 l1_2.length c1_2, .slice A1_3 l1_3.length c1_3, .slice A1_4 l1_4.length c1_4, .slice A1_5 l1_5.length c1_5]] rfl (by (try simp only [List.map_toArray, List.map_cons, List.map_nil]); first | done | rfl | (simp only [List.length_drop, List.length_take]; rfl)) ?_; (with_reducible refine (space_Tuples.calls k _ _ l0 a1_0 _ _ l1_1 _ _ l1_2 _ _ l1_3 _ _ l1_4 _ _ l1_5 t209 t212 _ ?side1 ?side2 ?side3 ?side4 ?side5 ?side6 ?side7 ?side8 ?side9 ?side10 ?side11 ?side12 A10.out).mono ?_); (case side1 => repeat (first | exact (Kd.C_below HR0.out HB.out) | (with_reducible refine Kd.C_alloc ?_ _) | (with_reducible refine Kd.C_drewN ?_ _) | (with_reducible refine Kd.C_drew ?_))); (case side2 => exact HC0.out); (case side3 => repeat (first | exact (Kd.C_below HR1_1.out HB.out) | (with_reducible refine Kd.C_alloc ?_ _) | (with_reducible refine Kd.C_drewN ?_ _) | (with_reducible refine Kd.C_drew ?_))); (case side4 => exact HC1_1.out); (case side5 => repeat (first | exact (Kd.C_below HR1_2.out HB.out) | (with_reducible refine Kd.C_alloc ?_ _) | (with_reducible refine Kd.C_drewN ?_ _) | (with_reducible refine Kd.C_drew ?_))); (case side6 => exact HC1_2.out); (case side7 => repeat (first | exact (Kd.C_below HR1_3.out HB.out) | (with_reducible refine Kd.C_alloc ?_ _) | (with_reducible refine Kd.C_drewN ?_ _) | (with_reducible refine Kd.C_drew ?_))); (case side8 => exact HC1_3.out); (case side9 => repeat (first | exact (Kd.C_below HR1_4.out HB.out) | (with_reducible refine Kd.C_alloc ?_ _) | (with_reducible refine Kd.C_drewN ?_ _) | (with_reducible refine Kd.C_drew ?_))); (case side10 => exact HC1_4.out); (case side11 => repeat (first | exact (Kd.C_below HR1_5.out HB.out) | (with_reducible refine Kd.C_alloc ?_ _) | (with_reducible refine Kd.C_drewN ?_ _) | (with_reducible refine Kd.C_drew ?_))); (case side12 => exact HC1_5.out); rintro e w17 ⟨v210, rfl, ho0, hb⟩; refine ⟨_, rfl, ?_⟩; have n0_ := Aside0.mk (Kd.S_lower ho0 (below_size (by repeat (first | (with_reducible first | exact HB.out | apply below_alloc | apply pw_below_drewN | apply below_drew1 | refine below_set ?_ GE206.out) | exact HB.out)))); have n1_ := Aside0.mk (blk_below (g := gb206) (o := .cells #[.int .i64 a1_0, .slice A1_1 l1_1.length c1_1, .slice A1_2 l1_2.length c1_2, .slice A1_3 l1_3.length c1_3, .slice A1_4 l1_4.length c1_4, .slice A1_5 l1_5.length c1_5] 33 (0, 0)) (by (with_reducible repeat (first | refine blk_drewN ?_ _ | refine blk_drew ?_ | refine blk_alloc ?_ _)); exact BK206.out) hb); have n2_ := Aside0.mk (below_step (by repeat (first | (with_reducible first | exact HB.out | apply below_alloc | apply pw_below_drewN | apply below_drew1 | refine below_set ?_ GE206.out) | exact HB.out)) hb); clear BK206; clear HB; have HO211 := n0_; have BK206 := n1_; have HB := n2_; clear n0_ n1_ n2_; (try clear hb); (try clear hb2); (try clear hk); (try clear hi); (try clear ho0); obtain ⟨Ao18, co18, eo18⟩ := Kd.S_slice HO211.out; subst eo18) | ((with_reducible refine gate_dst (N := 7) rfl ?_); (try (refine gate_guard (by rfl) ?_; dsimp only)); refine box_event ?hg (N := 7) ?hd (cs := #[.int .i64 0, .slice none 0 0, .slice none 0 0, .slice none 0 0, .slice none 0 0, .slice none 0 0]) (t := 33) ?hr ?_; (case hd => rfl); (case hg => rfl); (case hr => first | (go_simp; done) | (go_simp; rfl)); intro gb213 hg w19 hbox hb; have n0_ := Aside0.mk (Kd.S_below (by (with_reducible repeat (first | apply Kd.S_alloc | apply Kd.S_drewN | apply Kd.S_drew)); exact HO211.out) hb); have n1_ := Aside0.mk (blk_below (g := gb206) (o := .cells #[.int .i64 a1_0, .slice A1_1 l1_1.length c1_1, .slice A1_2 l1_2.length c1_2, .slice A1_3 l1_3.length c1_3, .slice A1_4 l1_4.length c1_4, .slice A1_5 l1_5.length c1_5] 33 (0, 0)) (by (with_reducible repeat (first | refine blk_drewN ?_ _ | refine blk_drew ?_ | refine blk_alloc ?_ _)); exact BK206.out) hb); have n2_ := Aside0.mk (below_step (by repeat (first | (with_reducible first | exact HB.out | apply below_alloc | apply pw_below_drewN | apply below_drew1 | refine below_set ?_ GE206.out) | exact HB.out)) hb); have n3_ := Aside0.mk (hbox); have n4_ := Aside0.mk ((by rw [hg]; exact (below_size (by repeat (first | (with_reducible first | exact HB.out | apply below_alloc | apply pw_below_drewN | apply below_drew1 | refine below_set ?_ GE206.out) | exact HB.out))) : w.heap.size ≤ gb213)); have n5_ := Aside0.mk ((by rw [hg]; exact (below_size (by repeat (first | (with_reducible first | exact HB.out | apply below_alloc | apply pw_below_drewN | apply below_drew1 | refine below_set ?_ GE206.out) | exact HB.out))) : w.heap.size ≤ gb213)); have n6_ := Aside0.mk ((by rw [hg]; exact Nat.ne_of_lt (blk_lt (g := gb206) (o := .cells #[.int .i64 a1_0, .slice A1_1 l1_1.length c1_1, .slice A1_2 l1_2.length c1_2, .slice A1_3 l1_3.length c1_3, .slice A1_4 l1_4.length c1_4, .slice A1_5 l1_5.length c1_5] 33 (0, 0)) (by (with_reducible repeat (first | refine blk_drewN ?_ _ | refine blk_drew ?_ | refine blk_alloc ?_ _)); exact BK206.out)) : gb206 ≠ gb213)); have n7_ := Aside0.mk ((by rw [hg]; exact Nat.ne_of_gt (blk_lt (g := gb206) (o := .cells #[.int .i64 a1_0, .slice A1_1 l1_1.length c1_1, .slice A1_2 l1_2.length c1_2, .slice A1_3 l1_3.length c1_3, .slice A1_4 l1_4.length c1_4, .slice A1_5 l1_5.length c1_5] 33 (0, 0)) (by (with_reducible repeat (first | refine blk_drewN ?_ _ | refine blk_drew ?_ | refine blk_alloc ?_ _)); exact BK206.out)) : gb213 ≠ gb206)); clear HO211; clear BK206; clear HB; have HO211 := n0_; have BK206 := n1_; have HB := n2_; have BK213 := n3_; have GW213 := n4_; have GE213 := n5_; have NB206_213 := n6_; have NB213_206 := n7_; clear n0_ n1_ n2_ n3_ n4_ n5_ n6_ n7_; clear hb hbox hg; have hnb20 := NB213_206.out; have hnc20 := NB206_213.out; have hcz21_0 : w19.cell? ⟨gb213, 0, none⟩ = some (.int .i64 0) := (blk_cell BK213.out 0).trans rfl; have hcz21_1 : w19.cell? ⟨gb213, 1, none⟩ = some (.slice none 0 0) := (blk_cell BK213.out 1).trans rfl; have hcz21_2 : w19.cell? ⟨gb213, 2, none⟩ = some (.slice none 0 0) := (blk_cell BK213.out 2).trans rfl; have hcz21_3 : w19.cell? ⟨gb213, 3, none⟩ = some (.slice none 0 0) := (blk_cell BK213.out 3).trans rfl; have hcz21_4 : w19.cell? ⟨gb213, 4, none⟩ = some (.slice none 0 0) := (blk_cell BK213.out 4).trans rfl; have hcz21_5 : w19.cell? ⟨gb213, 5, none⟩ = some (.slice none 0 0) := (blk_cell BK213.out 5).trans rfl; have hfz21_0 := blk_frozen BK213.out 0; have hfz21_1 := blk_frozen BK213.out 1; have hfz21_2 := blk_frozen BK213.out 2; have hfz21_3 := blk_frozen BK213.out 3; have hfz21_4 := blk_frozen BK213.out 4; have hfz21_5 := blk_frozen BK213.out 5; have hcz22_0 : w19.cell? ⟨gb206, 0, none⟩ = some (.int .i64 a1_0) := (blk_cell BK206.out 0).trans rfl; have hcz22_1 : w19.cell? ⟨gb206, 1, none⟩ = some (.slice A1_1 l1_1.length c1_1) := (blk_cell BK206.out 1).trans rfl; have hcz22_2 : w19.cell? ⟨gb206, 2, none⟩ = some (.slice A1_2 l1_2.length c1_2) := (blk_cell BK206.out 2).trans rfl; have hcz22_3 : w19.cell? ⟨gb206, 3, none⟩ = some (.slice A1_3 l1_3.length c1_3) := (blk_cell BK206.out 3).trans rfl; have hcz22_4 : w19.cell? ⟨gb206, 4, none⟩ = some (.slice A1_4 l1_4.length c1_4) := (blk_cell BK206.out 4).trans rfl; have hcz22_5 : w19.cell? ⟨gb206, 5, none⟩ = some (.slice A1_5 l1_5.length c1_5) := (blk_cell BK206.out 5).trans rfl; have hfz22_0 := blk_frozen BK206.out 0; have hfz22_1 := blk_frozen BK206.out 1; have hfz22_2 := blk_frozen BK206.out 2; have hfz22_3 := blk_frozen BK206.out 3; have hfz22_4 := blk_frozen BK206.out 4; have hfz22_5 := blk_frozen BK206.out 5) | ((with_reducible refine gate_callee (f := 15) rfl ?_); refine goesL_ (some 26) rfl rfl Try.func15 (by kernel_rfl) rfl #[.slice A0 l0.length c0, .agg #[.int .i64 a1_0, .slice A1_1 l1_1.length c1_1, .slice A1_2 l1_2.length c1_2, .slice A1_3 l1_3.length c1_3, .slice A1_4 l1_4.length c1_4, .slice A1_5 l1_5.length c1_5]] rfl (by (try simp only [List.map_toArray, List.map_cons, List.map_nil]); first | done | rfl | (simp only [List.length_drop, List.length_take]; rfl)) ?_; (with_reducible refine (space_Places.calls k _ _ l0 a1_0 _ _ l1_1 _ _ l1_2 _ _ l1_3 _ _ l1_4 _ _ l1_5 t214 t217 _ ?side1 ?side2 ?side3 ?side4 ?side5 ?side6 ?side7 ?side8 ?side9 ?side10 ?side11 ?side12 A11.out).mono ?_); (case side1 => exact Kd.C_below HR0.out (by repeat (first | (with_reducible first | exact HB.out | apply below_alloc | apply pw_below_drewN | apply below_drew1 | refine below_set ?_ GE206.out | refine below_set ?_ GE213.out) | exact HB.out))); (case side2 => exact HC0.out); (case side3 => exact Kd.C_below HR1_1.out (by repeat (first | (with_reducible first | exact HB.out | apply below_alloc | apply pw_below_drewN | apply below_drew1 | refine below_set ?_ GE206.out | refine below_set ?_ GE213.out) | exact HB.out))); (case side4 => exact HC1_1.out); (case side5 => exact Kd.C_below HR1_2.out (by repeat (first | (with_reducible first | exact HB.out | apply below_alloc | apply pw_below_drewN | apply below_drew1 | refine below_set ?_ GE206.out | refine below_set ?_ GE213.out) | exact HB.out))); (case side6 => exact HC1_2.out); (case side7 => exact Kd.C_below HR1_3.out (by repeat (first | (with_reducible first | exact HB.out | apply below_alloc | apply pw_below_drewN | apply below_drew1 | refine below_set ?_ GE206.out | refine below_set ?_ GE213.out) | exact HB.out))); (case side8 => exact HC1_3.out); (case side9 => exact Kd.C_below HR1_4.out (by repeat (first | (with_reducible first | exact HB.out | apply below_alloc | apply pw_below_drewN | apply below_drew1 | refine below_set ?_ GE206.out | refine below_set ?_ GE213.out) | exact HB.out))); (case side10 => exact HC1_4.out); (case side11 => exact Kd.C_below HR1_5.out (by repeat (first | (with_reducible first | exact HB.out | apply below_alloc | apply pw_below_drewN | apply below_drew1 | refine below_set ?_ GE206.out | refine below_set ?_ GE213.out) | exact HB.out))); (case side12 => exact HC1_5.out); rintro e w23 ⟨v215, rfl, ho0, hb⟩; refine ⟨_, rfl, ?_⟩; have n0_ := Aside0.mk (Kd.S_elder' (by (with_reducible repeat (first | apply Kd.S_alloc | apply Kd.S_drewN | apply Kd.S_drew)); exact (Kd.S_mono (Kd.S_far (p := ⟨gb213, 5, none⟩) (Kd.S_far (p := ⟨gb213, 4, none⟩) (Kd.S_far (p := ⟨gb213, 3, none⟩) (Kd.S_far (p := ⟨gb213, 2, none⟩) (Kd.S_far (p := ⟨gb213, 1, none⟩) (Kd.S_far (p := ⟨gb213, 0, none⟩) (Kd.S_types HO211.out BK213.out (by decide)) (fun _ hk => hk.2) (.int .i64 2)) (fun _ hk => hk.2) (.slice Ao18 t209.length co18)) (fun _ hk => hk.2) (.slice none 0 0)) (fun _ hk => hk.2) (.slice none 0 0)) (fun _ hk => hk.2) (.slice none 0 0)) (fun _ hk => hk.2) (.slice none 0 0)) (fun _ h_ => h_.1))) (Kd.R_base ho0) hb); have n1_ := Aside0.mk (Kd.R_lower ho0 (below_size (by repeat (first | (with_reducible first | exact HB.out | apply below_alloc | apply pw_below_drewN | apply below_drew1 | refine below_set ?_ GE206.out | refine below_set ?_ GE213.out) | exact HB.out)))); have n2_ := Aside0.mk (blk_below (g := gb206) (o := .cells #[.int .i64 a1_0, .slice A1_1 l1_1.length c1_1, .slice A1_2 l1_2.length c1_2, .slice A1_3 l1_3.length c1_3, .slice A1_4 l1_4.length c1_4, .slice A1_5 l1_5.length c1_5] 33 (0, 0)) (by (with_reducible repeat (first | refine blk_drewN ?_ _ | refine blk_drew ?_ | refine blk_alloc ?_ _)); refine blk_far ?_ NB206_213.out _; (with_reducible repeat (first | refine blk_drewN ?_ _ | refine blk_drew ?_ | refine blk_alloc ?_ _)); refine blk_far ?_ NB206_213.out _; (with_reducible repeat (first | refine blk_drewN ?_ _ | refine blk_drew ?_ | refine blk_alloc ?_ _)); refine blk_far ?_ NB206_213.out _; (with_reducible repeat (first | refine blk_drewN ?_ _ | refine blk_drew ?_ | refine blk_alloc ?_ _)); refine blk_far ?_ NB206_213.out _; (with_reducible repeat (first | refine blk_drewN ?_ _ | refine blk_drew ?_ | refine blk_alloc ?_ _)); refine blk_far ?_ NB206_213.out _; (with_reducible repeat (first | refine blk_drewN ?_ _ | refine blk_drew ?_ | refine blk_alloc ?_ _)); refine blk_far ?_ NB206_213.out _; (with_reducible repeat (first | refine blk_drewN ?_ _ | refine blk_drew ?_ | refine blk_alloc ?_ _)); exact BK206.out) hb); have n3_ := Aside0.mk (blk_below (g := gb213) (o := .cells #[.int .i64 2, .slice Ao18 t209.length co18, .slice none 0 0, .slice none 0 0, .slice none 0 0, .slice none 0 0] 33 (0, 0)) (by (with_reducible repeat (first | refine blk_drewN ?_ _ | refine blk_drew ?_ | refine blk_alloc ?_ _)); refine blk_put (cs := #[.int .i64 2, .slice Ao18 t209.length co18, .slice none 0 0, .slice none 0 0, .slice none 0 0, .slice none 0 0]) ?_ 5 _ rfl; (with_reducible repeat (first | refine blk_drewN ?_ _ | refine blk_drew ?_ | refine blk_alloc ?_ _)); refine blk_put (cs := #[.int .i64 2, .slice Ao18 t209.length co18, .slice none 0 0, .slice none 0 0, .slice none 0 0, .slice none 0 0]) ?_ 4 _ rfl; (with_reducible repeat (first | refine blk_drewN ?_ _ | refine blk_drew ?_ | refine blk_alloc ?_ _)); refine blk_put (cs := #[.int .i64 2, .slice Ao18 t209.length co18, .slice none 0 0, .slice none 0 0, .slice none 0 0, .slice none 0 0]) ?_ 3 _ rfl; (with_reducible repeat (first | refine blk_drewN ?_ _ | refine blk_drew ?_ | refine blk_alloc ?_ _)); refine blk_put (cs := #[.int .i64 2, .slice Ao18 t209.length co18, .slice none 0 0, .slice none 0 0, .slice none 0 0, .slice none 0 0]) ?_ 2 _ rfl; (with_reducible repeat (first | refine blk_drewN ?_ _ | refine blk_drew ?_ | refine blk_alloc ?_ _)); refine blk_put (cs := #[.int .i64 2, .slice none 0 0, .slice none 0 0, .slice none 0 0, .slice none 0 0, .slice none 0 0]) ?_ 1 _ rfl; (with_reducible repeat (first | refine blk_drewN ?_ _ | refine blk_drew ?_ | refine blk_alloc ?_ _)); refine blk_put (cs := #[.int .i64 0, .slice none 0 0, .slice none 0 0, .slice none 0 0, .slice none 0 0, .slice none 0 0]) ?_ 0 _ rfl; (with_reducible repeat (first | refine blk_drewN ?_ _ | refine blk_drew ?_ | refine blk_alloc ?_ _)); exact BK213.out) hb); have n4_ := Aside0.mk (below_step (by repeat (first | (with_reducible first | exact HB.out | apply below_alloc | apply pw_below_drewN | apply below_drew1 | refine below_set ?_ GE206.out | refine below_set ?_ GE213.out) | exact HB.out)) hb); clear HO211; clear BK206; clear BK213; clear HB; have HO211 := n0_; have HO216 := n1_; have BK206 := n2_; have BK213 := n3_; have HB := n4_; clear n0_ n1_ n2_ n3_ n4_; (try clear hb); (try clear hb2); (try clear hk); (try clear hi); (try clear ho0)))
    (try simp only [Act.put, List.setIfInBounds_toArray, List.set_cons_zero, List.set_cons_succ])
    go_cut [38] (fun v38 wc => ∃ (kq : Nat) (x38_11 : Bool), v38 = .bool x38_11 ∧ Aside0 (slabvaultlaw12_SpacePoints.j0 kq l0 t212 t214 x38_11 2 t209 = some r) ∧ Aside0 (kq ≤ k) ∧ Aside0 (Kd.R (Kd.int .i64) 3 wc w.heap.size (fun _ => True) v215 t214) ∧ Aside0 (Kd.S (Kd.slice 3 (Kd.int .i64)) 22 wc w.heap.size (fun k_ => some k_ ≠ (v215 : Value).ownBlock) (.slice Ao18 t209.length co18) t209) ∧ Aside0 (wc.heap[gb206]? = some (.cells #[.int .i64 a1_0, (.slice A1_1 l1_1.length c1_1), (.slice A1_2 l1_2.length c1_2), (.slice A1_3 l1_3.length c1_3), (.slice A1_4 l1_4.length c1_4), (.slice A1_5 l1_5.length c1_5)] 33 (0, 0))) ∧ Aside0 (wc.heap[gb213]? = some (.cells #[.int .i64 2, (.slice Ao18 t209.length co18), (.slice none 0 0), (.slice none 0 0), (.slice none 0 0), (.slice none 0 0)] 33 (0, 0))) ∧ Aside0 (Below w.heap.size w wc))
    case first =>
      have H := HC12.out
      clear HC12
      by_cases c24 : t212 = t217
      · rw [if_pos c24] at H
        have c24b0 : (t212 == t217) = true := beq_iff_eq.mpr c24
        have c24b1 : (t212 != t217) = false := bne_eq_false_iff_eq.mpr c24
        clear c24
        (first | rw [c24b0] | (simp only [i64_w, i32_w]; rw [c24b0]) | skip)
        have H' := Aside0.mk H
        clear H
        obtain ⟨Ao25, co25, eo25⟩ := Kd.R_slice HO216.out
        subst eo25
        go_wp2
        go_meet
        case rel => exact ⟨_, (((t214.length : Int) != (t209.length : Int))), (by first | rfl | (simp; done) | (simp [*]; done)), H', ⟨by first | omega | exact Nat.le_refl _⟩, ⟨by (with_reducible repeat (first | apply Kd.R_alloc | apply Kd.R_drewN | apply Kd.R_drew)); exact HO216.out⟩, ⟨by (with_reducible repeat (first | apply Kd.S_alloc | apply Kd.S_drewN | apply Kd.S_drew)); exact Kd.S_mono HO211.out (fun _ hk => hk.2)⟩, ⟨by (with_reducible repeat (first | refine blk_drewN ?_ _ | refine blk_drew ?_ | refine blk_alloc ?_ _)); exact BK206.out⟩, ⟨by (with_reducible repeat (first | refine blk_drewN ?_ _ | refine blk_drew ?_ | refine blk_alloc ?_ _)); exact BK213.out⟩, ⟨by repeat (first | (with_reducible first | exact HB.out | apply below_alloc | apply pw_below_drewN | apply below_drew1 | refine below_set ?_ GE206.out | refine below_set ?_ GE213.out) | exact HB.out)⟩⟩
      · rw [if_neg c24] at H
        have c24b0 : (t212 == t217) = false := beq_eq_false_iff_ne.mpr c24
        have c24b1 : (t212 != t217) = true := bne_iff_ne.mpr c24
        (first | rw [c24b0] | (simp only [i64_w, i32_w]; rw [c24b0]) | skip)
        have H' := Aside0.mk H
        clear H
        go_wp2
        go_meet
        case rel => exact ⟨_, (true), (by first | rfl | (simp; done) | (simp [*]; done)), H', ⟨by first | omega | exact Nat.le_refl _⟩, ⟨by (with_reducible repeat (first | apply Kd.R_alloc | apply Kd.R_drewN | apply Kd.R_drew)); exact HO216.out⟩, ⟨by (with_reducible repeat (first | apply Kd.S_alloc | apply Kd.S_drewN | apply Kd.S_drew)); exact Kd.S_mono HO211.out (fun _ hk => hk.2)⟩, ⟨by (with_reducible repeat (first | refine blk_drewN ?_ _ | refine blk_drew ?_ | refine blk_alloc ?_ _)); exact BK206.out⟩, ⟨by (with_reducible repeat (first | refine blk_drewN ?_ _ | refine blk_drew ?_ | refine blk_alloc ?_ _)); exact BK213.out⟩, ⟨by repeat (first | (with_reducible first | exact HB.out | apply below_alloc | apply pw_below_drewN | apply below_drew1 | refine below_set ?_ GE206.out | refine below_set ?_ GE213.out) | exact HB.out)⟩⟩
    case rest =>
      clear HC12
      try clear c1
      try clear c2
      try clear p2
      try clear c4
      try clear c9
      try clear c13
      try clear c14
      try clear c15
      try clear c20
      try clear c22
      try clear c24
      try clear c24b0
      try clear c24b1
      try clear hcz14_0
      try clear hcz14_1
      try clear hcz14_2
      try clear hcz14_3
      try clear hcz14_4
      try clear hcz14_5
      try clear hcz16_0
      try clear hcz16_1
      try clear hcz16_2
      try clear hcz16_3
      try clear hcz16_4
      try clear hcz16_5
      try clear hcz21_0
      try clear hcz21_1
      try clear hcz21_2
      try clear hcz21_3
      try clear hcz21_4
      try clear hcz21_5
      try clear hcz22_0
      try clear hcz22_1
      try clear hcz22_2
      try clear hcz22_3
      try clear hcz22_4
      try clear hcz22_5
      try clear hcz7_0
      try clear hcz7_1
      try clear hcz7_2
      try clear hcz7_3
      try clear hcz7_4
      try clear hcz7_5
      try clear hfz14_0
      try clear hfz14_1
      try clear hfz14_2
      try clear hfz14_3
      try clear hfz14_4
      try clear hfz14_5
      try clear hfz16_0
      try clear hfz16_1
      try clear hfz16_2
      try clear hfz16_3
      try clear hfz16_4
      try clear hfz16_5
      try clear hfz21_0
      try clear hfz21_1
      try clear hfz21_2
      try clear hfz21_3
      try clear hfz21_4
      try clear hfz21_5
      try clear hfz22_0
      try clear hfz22_1
      try clear hfz22_2
      try clear hfz22_3
      try clear hfz22_4
      try clear hfz22_5
      try clear hfz7_0
      try clear hfz7_1
      try clear hfz7_2
      try clear hfz7_3
      try clear hfz7_4
      try clear hfz7_5
      obtain ⟨kq, x38_11, rfl, HA, HJ11, HO_8, HO_214001, BK206, BK213, HB⟩ := hcut
      cases kq with
      | zero => exact absurd HA.out (by simp [slabvaultlaw12_SpacePoints.j0])
      | succ kj11 =>
        have H := HA.out
        clear HA
        simp only [slabvaultlaw12_SpacePoints.j0] at H
        by_cases c26 : x38_11 = true
        · subst c26
          have H1 : (some false) = some r := by rw [if_pos rfl] at H; exact H
          clear H
          have H := H1
          clear H1
          obtain rfl := Option.some.inj H
          go_wp2
          go_ret
          exact ⟨by first | rfl | (simp [errW_none, errW_some] <;> rfl) | (simp [*, errW_none, errW_some] <;> rfl), by repeat (first | (with_reducible first | exact HB.out | apply below_alloc | apply pw_below_drewN | apply below_drew1 | refine below_set ?_ GE206.out | refine below_set ?_ GE213.out) | exact HB.out)⟩
        · replace c26 := Bool.eq_false_iff.mpr c26
          subst c26
          have H1 : (if t212 = 0 then ((space_Places.f kj11 l0 2 t209 ([] : List Int) ([] : List Int) ([] : List Int) ([] : List Int)).bind fun bt219 => (if bt219.2 = 0 then ((slabvaultlaw12_ints.f kj11 t214 bt219.1).bind fun t223 => (if t223 = true then ((slabvaultlaw12_lives.f kj11).bind fun t224 => (some t224)) else (some false))) else (some false))) else ((slabvaultlaw12_lives.f kj11).bind fun t218 => (some t218))) = some r := by rw [if_neg (show ¬ (false = true) by decide)] at H; exact H
          clear H
          have H := H1
          clear H1
          by_cases c27 : t212 = 0
          · rw [if_pos c27] at H
            have c27b0 : (t212 == 0) = true := beq_iff_eq.mpr c27
            have c27b1 : (t212 != 0) = false := bne_eq_false_iff_eq.mpr c27
            clear c27
            replace H := Option.bind_eq_some_iff.mp H
            obtain ⟨⟨t219, t222⟩, A280, H⟩ := H
            replace H : (if t222 = 0 then ((slabvaultlaw12_ints.f kj11 t214 t219).bind fun t223 => (if t223 = true then ((slabvaultlaw12_lives.f kj11).bind fun t224 => (some t224)) else (some false))) else (some false)) = some r := H
            have A28 := Aside0.mk A280
            clear A280
            by_cases c29 : t222 = 0
            · rw [if_pos c29] at H
              have c29b0 : (t222 == 0) = true := beq_iff_eq.mpr c29
              have c29b1 : (t222 != 0) = false := bne_eq_false_iff_eq.mpr c29
              clear c29
              replace H := Option.bind_eq_some_iff.mp H
              obtain ⟨t223, A300, H⟩ := H
              replace H : (if t223 = true then ((slabvaultlaw12_lives.f kj11).bind fun t224 => (some t224)) else (some false)) = some r := H
              have A30 := Aside0.mk A300
              clear A300
              by_cases c31 : t223 = true
              · subst c31
                have H1 : ((slabvaultlaw12_lives.f kj11).bind fun t224 => (some t224)) = some r := by rw [if_pos rfl] at H; exact H
                clear H
                have H := H1
                clear H1
                replace H := Option.bind_eq_some_iff.mp H
                obtain ⟨t224, A320, H⟩ := H
                replace H : (some t224) = some r := H
                have A32 := Aside0.mk A320
                clear A320
                obtain rfl := Option.some.inj H
                have hnb33 := NB213_206.out
                have hnc33 := NB206_213.out
                have hcz34_0 : wc.cell? ⟨gb213, 0, none⟩ = some (.int .i64 2) := (blk_cell BK213.out 0).trans rfl
                have hcz34_1 : wc.cell? ⟨gb213, 1, none⟩ = some (.slice Ao18 t209.length co18) := (blk_cell BK213.out 1).trans rfl
                have hcz34_2 : wc.cell? ⟨gb213, 2, none⟩ = some (.slice none 0 0) := (blk_cell BK213.out 2).trans rfl
                have hcz34_3 : wc.cell? ⟨gb213, 3, none⟩ = some (.slice none 0 0) := (blk_cell BK213.out 3).trans rfl
                have hcz34_4 : wc.cell? ⟨gb213, 4, none⟩ = some (.slice none 0 0) := (blk_cell BK213.out 4).trans rfl
                have hcz34_5 : wc.cell? ⟨gb213, 5, none⟩ = some (.slice none 0 0) := (blk_cell BK213.out 5).trans rfl
                have hfz34_0 := blk_frozen BK213.out 0
                have hfz34_1 := blk_frozen BK213.out 1
                have hfz34_2 := blk_frozen BK213.out 2
                have hfz34_3 := blk_frozen BK213.out 3
                have hfz34_4 := blk_frozen BK213.out 4
                have hfz34_5 := blk_frozen BK213.out 5
                go_wp2_with (first | ((with_reducible refine gate_callee (f := 15) rfl ?_); refine goesL_ (some 45) rfl rfl Try.func15 (by kernel_rfl) rfl #[.slice A0 l0.length c0, .agg #[.int .i64 2, .slice Ao18 t209.length co18, .slice none 0 0, .slice none 0 0, .slice none 0 0, .slice none 0 0]] rfl (by (try simp only [List.map_toArray, List.map_cons, List.map_nil]); first | done | rfl | (simp only [List.length_drop, List.length_take]; rfl)) ?_; (refine (space_Places.calls kj11 _ _ l0 2 _ _ t209 _ _ ([] : List Int) _ _ ([] : List Int) _ _ ([] : List Int) _ _ ([] : List Int) t219 t222 _ ?side1 ?side2 ?side3 ?side4 ?side5 ?side6 ?side7 ?side8 ?side9 ?side10 ?side11 ?side12 A28.out).mono ?_); (case side1 => repeat (first | exact (Kd.C_below HR0.out HB.out) | (with_reducible refine Kd.C_alloc ?_ _) | (with_reducible refine Kd.C_drewN ?_ _) | (with_reducible refine Kd.C_drew ?_))); (case side2 => exact HC0.out); (case side3 => repeat (first | exact (Kd.S_reads' HO_214001.out).2.2 | (with_reducible refine Kd.C_alloc ?_ _) | (with_reducible refine Kd.C_drewN ?_ _) | (with_reducible refine Kd.C_drew ?_))); (case side4 => exact (Kd.S_reads' HO_214001.out).2.1); (case side5 => exact Kd.C_nil _ _); (case side6 => exact Nat.le_refl _); (case side7 => exact Kd.C_nil _ _); (case side8 => exact Nat.le_refl _); (case side9 => exact Kd.C_nil _ _); (case side10 => exact Nat.le_refl _); (case side11 => exact Kd.C_nil _ _); (case side12 => exact Nat.le_refl _); rintro e w35 ⟨v220, rfl, ho0, hb⟩; refine ⟨_, rfl, ?_⟩; have n0_ := Aside0.mk (Kd.R_elder' (by (with_reducible repeat (first | apply Kd.R_alloc | apply Kd.R_drewN | apply Kd.R_drew)); exact HO_8.out) (Kd.R_base ho0) hb); have n1_ := Aside0.mk (Kd.S_elder' (by (with_reducible repeat (first | apply Kd.S_alloc | apply Kd.S_drewN | apply Kd.S_drew)); exact HO_214001.out) (Kd.R_base ho0) hb); have n2_ := Aside0.mk (Kd.R_lower (Kd.R_new' ho0 (Kd.R_lt (by (with_reducible repeat (first | apply Kd.R_alloc | apply Kd.R_drewN | apply Kd.R_drew)); exact HO_8.out))) (below_size (by repeat (first | (with_reducible first | exact HB.out | apply below_alloc | apply pw_below_drewN | apply below_drew1 | refine below_set ?_ GE206.out | refine below_set ?_ GE213.out) | exact HB.out)))); have n3_ := Aside0.mk (blk_below (g := gb206) (o := .cells #[.int .i64 a1_0, .slice A1_1 l1_1.length c1_1, .slice A1_2 l1_2.length c1_2, .slice A1_3 l1_3.length c1_3, .slice A1_4 l1_4.length c1_4, .slice A1_5 l1_5.length c1_5] 33 (0, 0)) (by (with_reducible repeat (first | refine blk_drewN ?_ _ | refine blk_drew ?_ | refine blk_alloc ?_ _)); exact BK206.out) hb); have n4_ := Aside0.mk (blk_below (g := gb213) (o := .cells #[.int .i64 2, .slice Ao18 t209.length co18, .slice none 0 0, .slice none 0 0, .slice none 0 0, .slice none 0 0] 33 (0, 0)) (by (with_reducible repeat (first | refine blk_drewN ?_ _ | refine blk_drew ?_ | refine blk_alloc ?_ _)); exact BK213.out) hb); have n5_ := Aside0.mk (below_step (by repeat (first | (with_reducible first | exact HB.out | apply below_alloc | apply pw_below_drewN | apply below_drew1 | refine below_set ?_ GE206.out | refine below_set ?_ GE213.out) | exact HB.out)) hb); clear HO_8; clear HO_214001; clear BK206; clear BK213; clear HB; have HO_8 := n0_; have HO_214001 := n1_; have HO221 := n2_; have BK206 := n3_; have BK213 := n4_; have HB := n5_; clear n0_ n1_ n2_ n3_ n4_ n5_; (try clear hb); (try clear hb2); (try clear hk); (try clear hi); (try clear ho0); obtain ⟨Ao36, co36, eo36⟩ := Kd.R_slice HO_8.out; subst eo36; obtain ⟨Ao37, co37, eo37⟩ := Kd.R_slice HO221.out; subst eo37) | (go_at_call 17; (with_reducible refine (slabvaultlaw12_ints.calls kj11 _ _ t214 _ _ t219 true _ ?side1 ?side2 ?side3 ?side4 A30.out).mono ?_); (case side1 => repeat (first | exact (Kd.R_reads' HO_8.out).2.2 | (with_reducible refine Kd.C_alloc ?_ _) | (with_reducible refine Kd.C_drewN ?_ _) | (with_reducible refine Kd.C_drew ?_))); (case side2 => exact (Kd.R_reads' HO_8.out).2.1); (case side3 => repeat (first | exact (Kd.R_reads' HO221.out).2.2 | (with_reducible refine Kd.C_alloc ?_ _) | (with_reducible refine Kd.C_drewN ?_ _) | (with_reducible refine Kd.C_drew ?_))); (case side4 => exact (Kd.R_reads' HO221.out).2.1); rintro e w' ⟨rfl, ⟨nd, rfl⟩⟩) | (go_at_call 13; (with_reducible refine (slabvaultlaw12_lives.calls kj11  t224 _ A32.out).mono ?_); rintro e w38 ⟨rfl, hb⟩; have n0_ := Aside0.mk (Kd.R_below (by (with_reducible repeat (first | apply Kd.R_alloc | apply Kd.R_drewN | apply Kd.R_drew)); exact HO_8.out) hb); have n1_ := Aside0.mk (Kd.S_below (by (with_reducible repeat (first | apply Kd.S_alloc | apply Kd.S_drewN | apply Kd.S_drew)); exact HO_214001.out) hb); have n2_ := Aside0.mk (Kd.R_below (by (with_reducible repeat (first | apply Kd.R_alloc | apply Kd.R_drewN | apply Kd.R_drew)); exact HO221.out) hb); have n3_ := Aside0.mk (blk_below (g := gb206) (o := .cells #[.int .i64 a1_0, .slice A1_1 l1_1.length c1_1, .slice A1_2 l1_2.length c1_2, .slice A1_3 l1_3.length c1_3, .slice A1_4 l1_4.length c1_4, .slice A1_5 l1_5.length c1_5] 33 (0, 0)) (by (with_reducible repeat (first | refine blk_drewN ?_ _ | refine blk_drew ?_ | refine blk_alloc ?_ _)); exact BK206.out) hb); have n4_ := Aside0.mk (blk_below (g := gb213) (o := .cells #[.int .i64 2, .slice Ao18 t209.length co18, .slice none 0 0, .slice none 0 0, .slice none 0 0, .slice none 0 0] 33 (0, 0)) (by (with_reducible repeat (first | refine blk_drewN ?_ _ | refine blk_drew ?_ | refine blk_alloc ?_ _)); exact BK213.out) hb); have n5_ := Aside0.mk (below_step (by repeat (first | (with_reducible first | exact HB.out | apply below_alloc | apply pw_below_drewN | apply below_drew1 | refine below_set ?_ GE206.out | refine below_set ?_ GE213.out) | exact HB.out)) hb); clear HO_8; clear HO_214001; clear HO221; clear BK206; clear BK213; clear HB; have HO_8 := n0_; have HO_214001 := n1_; have HO221 := n2_; have BK206 := n3_; have BK213 := n4_; have HB := n5_; clear n0_ n1_ n2_ n3_ n4_ n5_; (try clear hb); (try clear hb2); (try clear hk); (try clear hi)))
                go_ret
                exact ⟨by first | rfl | (simp [errW_none, errW_some] <;> rfl) | (simp [*, errW_none, errW_some] <;> rfl), by repeat (first | (with_reducible first | exact HB.out | apply below_alloc | apply pw_below_drewN | apply below_drew1 | refine below_set ?_ GE206.out | refine below_set ?_ GE213.out) | exact HB.out)⟩
              · replace c31 := Bool.eq_false_iff.mpr c31
                subst c31
                have H1 : (some false) = some r := by rw [if_neg (show ¬ (false = true) by decide)] at H; exact H
                clear H
                have H := H1
                clear H1
                obtain rfl := Option.some.inj H
                have hnb39 := NB213_206.out
                have hnc39 := NB206_213.out
                have hcz40_0 : wc.cell? ⟨gb213, 0, none⟩ = some (.int .i64 2) := (blk_cell BK213.out 0).trans rfl
                have hcz40_1 : wc.cell? ⟨gb213, 1, none⟩ = some (.slice Ao18 t209.length co18) := (blk_cell BK213.out 1).trans rfl
                have hcz40_2 : wc.cell? ⟨gb213, 2, none⟩ = some (.slice none 0 0) := (blk_cell BK213.out 2).trans rfl
                have hcz40_3 : wc.cell? ⟨gb213, 3, none⟩ = some (.slice none 0 0) := (blk_cell BK213.out 3).trans rfl
                have hcz40_4 : wc.cell? ⟨gb213, 4, none⟩ = some (.slice none 0 0) := (blk_cell BK213.out 4).trans rfl
                have hcz40_5 : wc.cell? ⟨gb213, 5, none⟩ = some (.slice none 0 0) := (blk_cell BK213.out 5).trans rfl
                have hfz40_0 := blk_frozen BK213.out 0
                have hfz40_1 := blk_frozen BK213.out 1
                have hfz40_2 := blk_frozen BK213.out 2
                have hfz40_3 := blk_frozen BK213.out 3
                have hfz40_4 := blk_frozen BK213.out 4
                have hfz40_5 := blk_frozen BK213.out 5
                go_wp2_with (first | ((with_reducible refine gate_callee (f := 15) rfl ?_); refine goesL_ (some 45) rfl rfl Try.func15 (by kernel_rfl) rfl #[.slice A0 l0.length c0, .agg #[.int .i64 2, .slice Ao18 t209.length co18, .slice none 0 0, .slice none 0 0, .slice none 0 0, .slice none 0 0]] rfl (by (try simp only [List.map_toArray, List.map_cons, List.map_nil]); first | done | rfl | (simp only [List.length_drop, List.length_take]; rfl)) ?_; (refine (space_Places.calls kj11 _ _ l0 2 _ _ t209 _ _ ([] : List Int) _ _ ([] : List Int) _ _ ([] : List Int) _ _ ([] : List Int) t219 t222 _ ?side1 ?side2 ?side3 ?side4 ?side5 ?side6 ?side7 ?side8 ?side9 ?side10 ?side11 ?side12 A28.out).mono ?_); (case side1 => repeat (first | exact (Kd.C_below HR0.out HB.out) | (with_reducible refine Kd.C_alloc ?_ _) | (with_reducible refine Kd.C_drewN ?_ _) | (with_reducible refine Kd.C_drew ?_))); (case side2 => exact HC0.out); (case side3 => repeat (first | exact (Kd.S_reads' HO_214001.out).2.2 | (with_reducible refine Kd.C_alloc ?_ _) | (with_reducible refine Kd.C_drewN ?_ _) | (with_reducible refine Kd.C_drew ?_))); (case side4 => exact (Kd.S_reads' HO_214001.out).2.1); (case side5 => exact Kd.C_nil _ _); (case side6 => exact Nat.le_refl _); (case side7 => exact Kd.C_nil _ _); (case side8 => exact Nat.le_refl _); (case side9 => exact Kd.C_nil _ _); (case side10 => exact Nat.le_refl _); (case side11 => exact Kd.C_nil _ _); (case side12 => exact Nat.le_refl _); rintro e w41 ⟨v220, rfl, ho0, hb⟩; refine ⟨_, rfl, ?_⟩; have n0_ := Aside0.mk (Kd.R_elder' (by (with_reducible repeat (first | apply Kd.R_alloc | apply Kd.R_drewN | apply Kd.R_drew)); exact HO_8.out) (Kd.R_base ho0) hb); have n1_ := Aside0.mk (Kd.S_elder' (by (with_reducible repeat (first | apply Kd.S_alloc | apply Kd.S_drewN | apply Kd.S_drew)); exact HO_214001.out) (Kd.R_base ho0) hb); have n2_ := Aside0.mk (Kd.R_lower (Kd.R_new' ho0 (Kd.R_lt (by (with_reducible repeat (first | apply Kd.R_alloc | apply Kd.R_drewN | apply Kd.R_drew)); exact HO_8.out))) (below_size (by repeat (first | (with_reducible first | exact HB.out | apply below_alloc | apply pw_below_drewN | apply below_drew1 | refine below_set ?_ GE206.out | refine below_set ?_ GE213.out) | exact HB.out)))); have n3_ := Aside0.mk (blk_below (g := gb206) (o := .cells #[.int .i64 a1_0, .slice A1_1 l1_1.length c1_1, .slice A1_2 l1_2.length c1_2, .slice A1_3 l1_3.length c1_3, .slice A1_4 l1_4.length c1_4, .slice A1_5 l1_5.length c1_5] 33 (0, 0)) (by (with_reducible repeat (first | refine blk_drewN ?_ _ | refine blk_drew ?_ | refine blk_alloc ?_ _)); exact BK206.out) hb); have n4_ := Aside0.mk (blk_below (g := gb213) (o := .cells #[.int .i64 2, .slice Ao18 t209.length co18, .slice none 0 0, .slice none 0 0, .slice none 0 0, .slice none 0 0] 33 (0, 0)) (by (with_reducible repeat (first | refine blk_drewN ?_ _ | refine blk_drew ?_ | refine blk_alloc ?_ _)); exact BK213.out) hb); have n5_ := Aside0.mk (below_step (by repeat (first | (with_reducible first | exact HB.out | apply below_alloc | apply pw_below_drewN | apply below_drew1 | refine below_set ?_ GE206.out | refine below_set ?_ GE213.out) | exact HB.out)) hb); clear HO_8; clear HO_214001; clear BK206; clear BK213; clear HB; have HO_8 := n0_; have HO_214001 := n1_; have HO221 := n2_; have BK206 := n3_; have BK213 := n4_; have HB := n5_; clear n0_ n1_ n2_ n3_ n4_ n5_; (try clear hb); (try clear hb2); (try clear hk); (try clear hi); (try clear ho0); obtain ⟨Ao42, co42, eo42⟩ := Kd.R_slice HO_8.out; subst eo42; obtain ⟨Ao43, co43, eo43⟩ := Kd.R_slice HO221.out; subst eo43) | (go_at_call 17; (with_reducible refine (slabvaultlaw12_ints.calls kj11 _ _ t214 _ _ t219 false _ ?side1 ?side2 ?side3 ?side4 A30.out).mono ?_); (case side1 => repeat (first | exact (Kd.R_reads' HO_8.out).2.2 | (with_reducible refine Kd.C_alloc ?_ _) | (with_reducible refine Kd.C_drewN ?_ _) | (with_reducible refine Kd.C_drew ?_))); (case side2 => exact (Kd.R_reads' HO_8.out).2.1); (case side3 => repeat (first | exact (Kd.R_reads' HO221.out).2.2 | (with_reducible refine Kd.C_alloc ?_ _) | (with_reducible refine Kd.C_drewN ?_ _) | (with_reducible refine Kd.C_drew ?_))); (case side4 => exact (Kd.R_reads' HO221.out).2.1); rintro e w' ⟨rfl, ⟨nd, rfl⟩⟩))
                go_ret
                exact ⟨by first | rfl | (simp [errW_none, errW_some] <;> rfl) | (simp [*, errW_none, errW_some] <;> rfl), by repeat (first | (with_reducible first | exact HB.out | apply below_alloc | apply pw_below_drewN | apply below_drew1 | refine below_set ?_ GE206.out | refine below_set ?_ GE213.out) | exact HB.out)⟩
            · rw [if_neg c29] at H
              have c29b0 : (t222 == 0) = false := beq_eq_false_iff_ne.mpr c29
              have c29b1 : (t222 != 0) = true := bne_iff_ne.mpr c29
              obtain rfl := Option.some.inj H
              have hnb44 := NB213_206.out
              have hnc44 := NB206_213.out
              have hcz45_0 : wc.cell? ⟨gb213, 0, none⟩ = some (.int .i64 2) := (blk_cell BK213.out 0).trans rfl
              have hcz45_1 : wc.cell? ⟨gb213, 1, none⟩ = some (.slice Ao18 t209.length co18) := (blk_cell BK213.out 1).trans rfl
              have hcz45_2 : wc.cell? ⟨gb213, 2, none⟩ = some (.slice none 0 0) := (blk_cell BK213.out 2).trans rfl
              have hcz45_3 : wc.cell? ⟨gb213, 3, none⟩ = some (.slice none 0 0) := (blk_cell BK213.out 3).trans rfl
              have hcz45_4 : wc.cell? ⟨gb213, 4, none⟩ = some (.slice none 0 0) := (blk_cell BK213.out 4).trans rfl
              have hcz45_5 : wc.cell? ⟨gb213, 5, none⟩ = some (.slice none 0 0) := (blk_cell BK213.out 5).trans rfl
              have hfz45_0 := blk_frozen BK213.out 0
              have hfz45_1 := blk_frozen BK213.out 1
              have hfz45_2 := blk_frozen BK213.out 2
              have hfz45_3 := blk_frozen BK213.out 3
              have hfz45_4 := blk_frozen BK213.out 4
              have hfz45_5 := blk_frozen BK213.out 5
              go_wp2_with (first | ((with_reducible refine gate_callee (f := 15) rfl ?_); refine goesL_ (some 45) rfl rfl Try.func15 (by kernel_rfl) rfl #[.slice A0 l0.length c0, .agg #[.int .i64 2, .slice Ao18 t209.length co18, .slice none 0 0, .slice none 0 0, .slice none 0 0, .slice none 0 0]] rfl (by (try simp only [List.map_toArray, List.map_cons, List.map_nil]); first | done | rfl | (simp only [List.length_drop, List.length_take]; rfl)) ?_; (refine (space_Places.calls kj11 _ _ l0 2 _ _ t209 _ _ ([] : List Int) _ _ ([] : List Int) _ _ ([] : List Int) _ _ ([] : List Int) t219 t222 _ ?side1 ?side2 ?side3 ?side4 ?side5 ?side6 ?side7 ?side8 ?side9 ?side10 ?side11 ?side12 A28.out).mono ?_); (case side1 => repeat (first | exact (Kd.C_below HR0.out HB.out) | (with_reducible refine Kd.C_alloc ?_ _) | (with_reducible refine Kd.C_drewN ?_ _) | (with_reducible refine Kd.C_drew ?_))); (case side2 => exact HC0.out); (case side3 => repeat (first | exact (Kd.S_reads' HO_214001.out).2.2 | (with_reducible refine Kd.C_alloc ?_ _) | (with_reducible refine Kd.C_drewN ?_ _) | (with_reducible refine Kd.C_drew ?_))); (case side4 => exact (Kd.S_reads' HO_214001.out).2.1); (case side5 => exact Kd.C_nil _ _); (case side6 => exact Nat.le_refl _); (case side7 => exact Kd.C_nil _ _); (case side8 => exact Nat.le_refl _); (case side9 => exact Kd.C_nil _ _); (case side10 => exact Nat.le_refl _); (case side11 => exact Kd.C_nil _ _); (case side12 => exact Nat.le_refl _); rintro e w46 ⟨v220, rfl, ho0, hb⟩; refine ⟨_, rfl, ?_⟩; have n0_ := Aside0.mk (Kd.R_elder' (by (with_reducible repeat (first | apply Kd.R_alloc | apply Kd.R_drewN | apply Kd.R_drew)); exact HO_8.out) (Kd.R_base ho0) hb); have n1_ := Aside0.mk (Kd.S_elder' (by (with_reducible repeat (first | apply Kd.S_alloc | apply Kd.S_drewN | apply Kd.S_drew)); exact HO_214001.out) (Kd.R_base ho0) hb); have n2_ := Aside0.mk (Kd.R_lower (Kd.R_new' ho0 (Kd.R_lt (by (with_reducible repeat (first | apply Kd.R_alloc | apply Kd.R_drewN | apply Kd.R_drew)); exact HO_8.out))) (below_size (by repeat (first | (with_reducible first | exact HB.out | apply below_alloc | apply pw_below_drewN | apply below_drew1 | refine below_set ?_ GE206.out | refine below_set ?_ GE213.out) | exact HB.out)))); have n3_ := Aside0.mk (blk_below (g := gb206) (o := .cells #[.int .i64 a1_0, .slice A1_1 l1_1.length c1_1, .slice A1_2 l1_2.length c1_2, .slice A1_3 l1_3.length c1_3, .slice A1_4 l1_4.length c1_4, .slice A1_5 l1_5.length c1_5] 33 (0, 0)) (by (with_reducible repeat (first | refine blk_drewN ?_ _ | refine blk_drew ?_ | refine blk_alloc ?_ _)); exact BK206.out) hb); have n4_ := Aside0.mk (blk_below (g := gb213) (o := .cells #[.int .i64 2, .slice Ao18 t209.length co18, .slice none 0 0, .slice none 0 0, .slice none 0 0, .slice none 0 0] 33 (0, 0)) (by (with_reducible repeat (first | refine blk_drewN ?_ _ | refine blk_drew ?_ | refine blk_alloc ?_ _)); exact BK213.out) hb); have n5_ := Aside0.mk (below_step (by repeat (first | (with_reducible first | exact HB.out | apply below_alloc | apply pw_below_drewN | apply below_drew1 | refine below_set ?_ GE206.out | refine below_set ?_ GE213.out) | exact HB.out)) hb); clear HO_8; clear HO_214001; clear BK206; clear BK213; clear HB; have HO_8 := n0_; have HO_214001 := n1_; have HO221 := n2_; have BK206 := n3_; have BK213 := n4_; have HB := n5_; clear n0_ n1_ n2_ n3_ n4_ n5_; (try clear hb); (try clear hb2); (try clear hk); (try clear hi); (try clear ho0)))
              go_ret
              exact ⟨by first | rfl | (simp [errW_none, errW_some] <;> rfl) | (simp [*, errW_none, errW_some] <;> rfl), by repeat (first | (with_reducible first | exact HB.out | apply below_alloc | apply pw_below_drewN | apply below_drew1 | refine below_set ?_ GE206.out | refine below_set ?_ GE213.out) | exact HB.out)⟩
          · rw [if_neg c27] at H
            have c27b0 : (t212 == 0) = false := beq_eq_false_iff_ne.mpr c27
            have c27b1 : (t212 != 0) = true := bne_iff_ne.mpr c27
            replace H := Option.bind_eq_some_iff.mp H
            obtain ⟨t218, A470, H⟩ := H
            replace H : (some t218) = some r := H
            have A47 := Aside0.mk A470
            clear A470
            obtain rfl := Option.some.inj H
            go_wp2_with (first | ((with_reducible refine gate_callee (f := 13) rfl ?_); refine goesL_ (some 41) rfl rfl Try.func13 (by kernel_rfl) rfl #[] rfl (by (try simp only [List.map_toArray, List.map_cons, List.map_nil]); first | done | rfl | (simp only [List.length_drop, List.length_take]; rfl)) ?_; (with_reducible refine (slabvaultlaw12_lives.calls kj11  t218 _ A47.out).mono ?_); rintro e w48 ⟨rfl, hb⟩; refine ⟨_, rfl, ?_⟩; have n0_ := Aside0.mk (Kd.R_below (by (with_reducible repeat (first | apply Kd.R_alloc | apply Kd.R_drewN | apply Kd.R_drew)); exact HO_8.out) hb); have n1_ := Aside0.mk (Kd.S_below (by (with_reducible repeat (first | apply Kd.S_alloc | apply Kd.S_drewN | apply Kd.S_drew)); exact HO_214001.out) hb); have n2_ := Aside0.mk (blk_below (g := gb206) (o := .cells #[.int .i64 a1_0, .slice A1_1 l1_1.length c1_1, .slice A1_2 l1_2.length c1_2, .slice A1_3 l1_3.length c1_3, .slice A1_4 l1_4.length c1_4, .slice A1_5 l1_5.length c1_5] 33 (0, 0)) (by (with_reducible repeat (first | refine blk_drewN ?_ _ | refine blk_drew ?_ | refine blk_alloc ?_ _)); exact BK206.out) hb); have n3_ := Aside0.mk (blk_below (g := gb213) (o := .cells #[.int .i64 2, .slice Ao18 t209.length co18, .slice none 0 0, .slice none 0 0, .slice none 0 0, .slice none 0 0] 33 (0, 0)) (by (with_reducible repeat (first | refine blk_drewN ?_ _ | refine blk_drew ?_ | refine blk_alloc ?_ _)); exact BK213.out) hb); have n4_ := Aside0.mk (below_step (by repeat (first | (with_reducible first | exact HB.out | apply below_alloc | apply pw_below_drewN | apply below_drew1 | refine below_set ?_ GE206.out | refine below_set ?_ GE213.out) | exact HB.out)) hb); clear HO_8; clear HO_214001; clear BK206; clear BK213; clear HB; have HO_8 := n0_; have HO_214001 := n1_; have BK206 := n2_; have BK213 := n3_; have HB := n4_; clear n0_ n1_ n2_ n3_ n4_; (try clear hb); (try clear hb2); (try clear hk); (try clear hi)))
            go_ret
            exact ⟨by first | rfl | (simp [errW_none, errW_some] <;> rfl) | (simp [*, errW_none, errW_some] <;> rfl), by repeat (first | (with_reducible first | exact HB.out | apply below_alloc | apply pw_below_drewN | apply below_drew1 | refine below_set ?_ GE206.out | refine below_set ?_ GE213.out) | exact HB.out)⟩
end Go.Proofs.Ytjbjofmcmjojlaa.Wk
end
section
namespace Go.Proofs.Ytjbjofmcmjojlaa.Wk
open Go.RowKit Go.Proofs.YtjbjofmcmjojlaaW.PrintWords Go.Proofs.YtjbjofmcmjojlaaW.PrintLast Go.Proofs.YtjbjofmcmjojlaaW.PrintMore
attribute [local go_sem] max2_int min2_int max_two min_two max_three min_three max_four min_four
set_option linter.unusedVariables false
set_option linter.unusedSimpArgs false
mutual
def slabvaultref12_Elements.l0 : Nat → List Int → Int → Int → Option (Int × Int)
  | 0, _, _, _ => none
  | k + 1, x0, x4, x5 => if x5 < (x0.length : Int) then (if 0 ≤ x5 then (if (rd x0 x5) < 0 then (some (0, 2)) else (if (rd x0 x5) > 1048576 then (some (0, 2)) else (slabvaultref12_Elements.l0 k x0 x4 (wrap64 (x5 + 1))))) else (none)) else (slabvaultref12_Elements.l1 k x0 x4 0)
def slabvaultref12_Elements.l1 : Nat → List Int → Int → Int → Option (Int × Int)
  | 0, _, _, _ => none
  | k + 1, x0, x4, x6 => if x6 < (x0.length : Int) then (if 0 ≤ x6 then (if (rd x0 x6) = 0 then (some (0, 0)) else (slabvaultref12_Elements.l1 k x0 x4 (wrap64 (x6 + 1)))) else (none)) else (slabvaultref12_Elements.l2 k x0 x4 0)
def slabvaultref12_Elements.l2 : Nat → List Int → Int → Int → Option (Int × Int)
  | 0, _, _, _ => none
  | k + 1, x0, x4, x7 => if x7 < (x0.length : Int) then (if 0 ≤ x7 then (if (wrap64 (x4 * (rd x0 x7))) > 1048576 then (some (0, 3)) else (slabvaultref12_Elements.l2 k x0 (wrap64 (x4 * (rd x0 x7))) (wrap64 (x7 + 1)))) else (none)) else (some (x4, 0))
end
def slabvaultref12_Elements.f (k : Nat) (l0 : List Int) : Option (Int × Int) := if (l0.length : Int) > 4 then (some (0, 2)) else (slabvaultref12_Elements.l0 k l0 1 0)
end Go.Proofs.Ytjbjofmcmjojlaa.Wk
end
section
namespace Go.Proofs.Ytjbjofmcmjojlaa.Wk
open Go.RowKit Go.Proofs.YtjbjofmcmjojlaaW.PrintWords Go.Proofs.YtjbjofmcmjojlaaW.PrintLast Go.Proofs.YtjbjofmcmjojlaaW.PrintMore
attribute [local go_sem] max2_int min2_int max_two min_two max_three min_three max_four min_four
set_option linter.unusedVariables false
set_option linter.unusedSimpArgs false
def slabvaultlaw12_SpaceElements.f (k : Nat) (l0 : List Int) : Option (Bool) := (space_Elements.f l0).bind fun bt208 => ((slabvaultref12_Elements.f k l0).bind fun bt210 => (if bt208.1 = bt210.1 then (if bt208.2 = bt210.2 then ((slabvaultlaw12_lives.f k).bind fun t212 => (some t212)) else (some false)) else (some false)))
def slabvaultlaw12_SpaceElements.Pure : Prop := ∀ (l0 : List Int), l0.length ≤ maxLen → l0.length * 8 ≤ 140737488351232 → (∀ x ∈ l0, (Lit.int .i64 x).wf = true) → ∃ k, slabvaultlaw12_SpaceElements.f k l0 = some true
end Go.Proofs.Ytjbjofmcmjojlaa.Wk
end
section
namespace Go.Proofs.Ytjbjofmcmjojlaa.Pure
open Go.RowKit Go.Proofs.Ytjbjofmcmjojlaa.Wk Go.Proofs.YtjbjofmcmjojlaaW.PrintWords Go.Proofs.YtjbjofmcmjojlaaW.PrintLast
theorem wrap_up {i : Nat} {n : Nat} (h : i < n) (hn : n ≤ 9223372036854775807) : wrap64 ((i : Int) + 1) = ((i + 1 : Nat) : Int) := by unfold wrap64; omega
theorem rd_nat (l : List Int) (i : Nat) (h : i < l.length) : rd l (i : Int) = l[i] := by simp [rd, h]
theorem lives_ev : Ev (fun k => slabvaultlaw12_lives.f k) true := Ev.of (fun k => slabvaultlaw12_lives.mono k) (k := 60) (by decide +kernel)
def elemsT (l0 : List Int) : Int × Int := if 4 < l0.length ∨ l0.any badDim = true then (0, 2) else if l0.contains 0 = true then (0, 0) else prodLoop l0 l0.length 0 1
theorem elements_eq (l : List Int) : space_Elements.f l = some (elemsT l) := rfl
end Go.Proofs.Ytjbjofmcmjojlaa.Pure
end
section
namespace Go.Proofs.Ytjbjofmcmjojlaa.Pure
open Go.RowKit Go.Proofs.Ytjbjofmcmjojlaa.Wk Go.Proofs.YtjbjofmcmjojlaaW.PrintWords Go.Proofs.YtjbjofmcmjojlaaW.PrintLast Go.Proofs.YtjbjofmcmjojlaaQ
def Fit (l : List Int) : Prop := l.length ≤ 9223372036854775807 ∧ ∀ x ∈ l, -9223372036854775808 ≤ x ∧ x ≤ 9223372036854775807
theorem Fit.rd {l : List Int} (h : Fit l) (i : Nat) (hi : i < l.length) : -9223372036854775808 ≤ rd l i ∧ rd l i ≤ 9223372036854775807 := by
  rw [rd_nat l i hi]
  exact h.2 _ (List.getElem_mem hi)
def manyT (l : List Int) : Int := if l.contains 0 = true then 0 else manyLoop l l.length 0 1
def beyondT (dim start stride cnt blk : Int) : Bool := decide (dim - start < blk) || (decide (0 < stride) && decide (cnt - 1 > (dim - start - blk) / stride))
def outAt (l0 x : List Int) (i : Nat) : Bool := (List.range' i (x.length - i)).any fun d => decide (rd x d ≥ rd l0 d)
def outT (l0 : List Int) (pts : List (List Int)) : Bool := pts.any fun x => outAt l0 x 0
def beyondAt (l0 start stride cnt blk : List Int) (i : Nat) : Bool := (List.range' i (l0.length - i)).any fun d => beyondT (rd l0 d) (rd start d) (rd stride d) (rd cnt d) (rd blk d)
def capT (n : Int) : Int × Int := if n > 4096 then (0, 18) else (n, 0)
def slabR (r : Nat) (start stride cnt blk : List Int) : Bool := [start, stride, cnt, blk].all (rightOne r)
def measuredT (l0 : List Int) (kind : Int) (pts : List (List Int)) (start stride cnt blk : List Int) : Int × Int :=
  if (elemsT l0).2 = 0 then
    if kind = 1 then capT (elemsT l0).1
    else if kind = 2 ∧ pts.all (rightOne l0.length) = true then (if outT l0 pts = true then (0, 17) else capT pts.length)
    else if kind = 3 ∧ slabR l0.length start stride cnt blk = true then
      (if manyT (cnt ++ blk) > 0 ∧ beyondAt l0 start stride cnt blk 0 = true then (0, 17) else capT (manyT (cnt ++ blk)))
    else (0, 2)
  else (0, (elemsT l0).2)
theorem range'_any_succ (p : Nat → Bool) (i n : Nat) (h : i < n) : (List.range' i (n - i)).any p = (p i || (List.range' (i + 1) (n - (i + 1))).any p) := by
  rw [show n - i = (n - (i + 1)) + 1 by omega, List.range'_succ, List.any_cons]
theorem beyond_eq {dim start stride cnt blk : Int} (h1 : 0 ≤ dim ∧ dim ≤ 1048576) (h2 : 0 ≤ start ∧ start ≤ 9223372036854775807) (h3 : 0 ≤ stride) (h4 : 0 ≤ cnt ∧ cnt ≤ 9223372036854775807) (h5 : 0 ≤ blk ∧ blk ≤ 9223372036854775807) :
    space_beyond.f dim start stride cnt blk = some (beyondT dim start stride cnt blk) := by
  unfold space_beyond.f beyondT
  have w1 : wrap64 (dim - start) = dim - start := by unfold wrap64; omega
  rw [w1]
  by_cases c : dim - start < blk
  · rw [if_pos c]
    simp [c]
  · rw [if_neg c]
    have w2 : wrap64 (dim - start - blk) = dim - start - blk := by unfold wrap64; omega
    have w3 : wrap64 (cnt - 1) = cnt - 1 := by unfold wrap64; omega
    rw [w2, w3]
    by_cases d : stride > 0
    · rw [if_pos d, if_neg (by omega), Int.tdiv_eq_ediv_of_nonneg (by omega)]
      have q0 : 0 ≤ (dim - start - blk) / stride := Int.ediv_nonneg (by omega) (by omega)
      have q1 : (dim - start - blk) / stride ≤ dim - start - blk := Int.ediv_le_self _ (by omega)
      have w4 : wrap64 ((dim - start - blk) / stride) = (dim - start - blk) / stride := by unfold wrap64; omega
      rw [w4]
      simp [c, d]
    · rw [if_neg d]
      simp [c, d]
theorem meas_l1 (l0 : List Int) (n : Int) (pts : List (List Int)) (hp : pts.length ≤ 9223372036854775807) (x : List Int) (hx : x.length = l0.length) (hm : l0.length ≤ 9223372036854775807) (m : Nat)
    (r : Int × Int) (hr : Ev (fun k => space_measured.l0 k l0 n pts pts.length ((m + 1 : Nat) : Int)) r) (hmp : m < pts.length) : ∀ (d i : Nat), x.length - i = d → i ≤ x.length →
    Ev (fun k => space_measured.l1 k l0 n pts pts.length m x x.length i) (if outAt l0 x i = true then (0, 17) else r) := by
  intro d
  induction d with
  | zero =>
    intro i h hi
    have e : outAt l0 x i = false := by unfold outAt; rw [show x.length - i = 0 by omega]; rfl
    rw [e]
    refine Ev.step (f := fun k => space_measured.l0 k l0 n pts pts.length ((m + 1 : Nat) : Int)) (fun k => ?_) hr
    simp only [space_measured.l1]
    rw [if_neg (by omega), wrap_up hmp hp]
  | succ d ih =>
    intro i h hi
    have hlt : i < x.length := by omega
    have e : outAt l0 x i = (decide (rd x i ≥ rd l0 i) || outAt l0 x (i + 1)) := range'_any_succ _ _ _ hlt
    rw [e]
    by_cases c : rd x i ≥ rd l0 i
    · refine Ev.step (f := fun _ => some (0, 17)) (fun k => ?_) (by rw [decide_eq_true c]; exact Ev.now _)
      simp only [space_measured.l1]
      rw [if_pos (by omega), if_pos (by omega), if_pos (by omega), if_pos (by omega), if_pos c]
    · refine Ev.step (f := fun k => space_measured.l1 k l0 n pts pts.length m x x.length ((i + 1 : Nat) : Int)) (fun k => ?_) (by rw [decide_eq_false c, Bool.false_or]; exact ih (i + 1) (by omega) (by omega))
      simp only [space_measured.l1]
      rw [if_pos (by omega), if_pos (by omega), if_pos (by omega), if_pos (by omega), if_neg c, wrap_up hlt (by omega)]
theorem meas_l0 (l0 : List Int) (n : Int) (pts : List (List Int)) (hp : pts.length ≤ 9223372036854775807) (hm : l0.length ≤ 9223372036854775807) (hr : ∀ x ∈ pts, x.length = l0.length) : ∀ (d i : Nat), pts.length - i = d → i ≤ pts.length →
    Ev (fun k => space_measured.l0 k l0 n pts pts.length i) (if (pts.drop i).any (fun x => outAt l0 x 0) = true then (0, 17) else capT n) := by
  intro d
  induction d with
  | zero =>
    intro i h hi
    rw [List.drop_eq_nil_of_le (by omega)]
    refine Ev.step (f := fun _ => some (capT n)) (fun k => ?_) (by rw [if_neg (by simp)]; exact Ev.now _)
    simp only [space_measured.l0]
    rw [if_neg (by omega)]
    unfold capT
    split <;> rfl
  | succ d ih =>
    intro i h hi
    have hlt : i < pts.length := by omega
    have hx : rd_L1 pts i = pts[i] := by simp [rd_L1, List.getD_eq_getElem?_getD, hlt]
    have hl := hr _ (List.getElem_mem hlt)
    rw [List.drop_eq_getElem_cons hlt, List.any_cons]
    refine Ev.step (f := fun k => space_measured.l1 k l0 n pts pts.length i pts[i] (pts[i].length : Int) ((0 : Nat) : Int)) (fun k => ?_) ?_
    · simp only [space_measured.l0]
      rw [if_pos (by omega), if_pos (by omega), if_pos (by omega), hx]
      rfl
    · have := meas_l1 l0 n pts hp pts[i] hl hm i _ (ih (i + 1) (by omega) (by omega)) hlt pts[i].length 0 (by omega) (by omega)
      cases c : outAt l0 pts[i] 0 with
      | true => rw [c] at this; simpa using this
      | false => rw [c] at this; simpa using this
theorem meas_l2 (l0 : List Int) (n kind : Int) (pts : List (List Int)) (start stride cnt blk : List Int) (hm : l0.length ≤ 9223372036854775807) (h0 : l0.any badDim = false)
    (e1 : start.length = l0.length) (e2 : stride.length = l0.length) (e3 : cnt.length = l0.length) (e4 : blk.length = l0.length)
    (f1 : ∀ d : Nat, d < l0.length → 0 ≤ rd start d ∧ rd start d ≤ 9223372036854775807) (f2 : ∀ d : Nat, d < l0.length → 0 ≤ rd stride d) (f3 : ∀ d : Nat, d < l0.length → 0 ≤ rd cnt d ∧ rd cnt d ≤ 9223372036854775807) (f4 : ∀ d : Nat, d < l0.length → 0 ≤ rd blk d ∧ rd blk d ≤ 9223372036854775807) :
    ∀ (d i : Nat), l0.length - i = d → i ≤ l0.length →
    Ev (fun k => space_measured.l2 k l0 n l0.length i kind pts start stride cnt blk) (if n > 0 ∧ beyondAt l0 start stride cnt blk i = true then (0, 17) else capT n) := by
  intro d
  induction d with
  | zero =>
    intro i h hi
    have e : beyondAt l0 start stride cnt blk i = false := by unfold beyondAt; rw [show l0.length - i = 0 by omega]; rfl
    rw [e, if_neg (by simp)]
    refine Ev.step (f := fun _ => some (capT n)) (fun k => ?_) (Ev.now _)
    simp only [space_measured.l2]
    rw [if_neg (by omega)]
    unfold capT
    split <;> rfl
  | succ d ih =>
    intro i h hi
    have hlt : i < l0.length := by omega
    have e : beyondAt l0 start stride cnt blk i = (beyondT (rd l0 i) (rd start i) (rd stride i) (rd cnt i) (rd blk i) || beyondAt l0 start stride cnt blk (i + 1)) := range'_any_succ _ _ _ hlt
    have hb := beyond_eq (good_rd h0 i hlt) (f1 i hlt) (f2 i hlt) (f3 i hlt) (f4 i hlt)
    rw [e]
    by_cases c : n > 0
    · refine Ev.step (f := fun k => if beyondT (rd l0 i) (rd start i) (rd stride i) (rd cnt i) (rd blk i) = true then some (0, 17) else space_measured.l2 k l0 n l0.length ((i + 1 : Nat) : Int) kind pts start stride cnt blk) (fun k => ?_) ?_
      · simp only [space_measured.l2]
        rw [if_pos (by omega), if_pos c, if_pos (by omega), if_pos (by omega), if_pos (by omega), if_pos (by omega), if_pos (by omega), if_pos (by omega), hb, Option.bind_some, wrap_up hlt hm]
      · cases b : beyondT (rd l0 i) (rd start i) (rd stride i) (rd cnt i) (rd blk i) with
        | true => simp only [if_true, Bool.true_or, and_true]; rw [if_pos c]; exact Ev.now _
        | false => simp only [Bool.false_eq_true, if_false, Bool.false_or]; exact ih (i + 1) (by omega) (by omega)
    · refine Ev.step (f := fun k => space_measured.l2 k l0 n l0.length ((i + 1 : Nat) : Int) kind pts start stride cnt blk) (fun k => ?_) ?_
      · simp only [space_measured.l2]
        rw [if_pos (by omega), if_neg c, wrap_up hlt hm]
      · have := ih (i + 1) (by omega) (by omega)
        rw [if_neg (fun h => c h.1)] at this ⊢
        exact this
theorem right_nonneg {l : List Int} {r : Nat} (h : rightOne r l = true) : l.length = r ∧ l.any negDim = false := by
  unfold rightOne at h
  rw [Bool.and_eq_true, decide_eq_true_eq, Bool.not_eq_true'] at h
  exact ⟨by omega, h.2⟩
theorem neg_rd {l : List Int} (h : l.any negDim = false) (i : Nat) (hi : i < l.length) : 0 ≤ rd l i := by
  rw [rd_nat l i hi]
  have := List.any_eq_false.1 h l[i] (List.getElem_mem hi)
  simp [negDim] at this
  omega
theorem many_eq {l : List Int} (h : l.length ≤ 9223372036854775807) (hn : l.any negDim = false) : space_many.f 1 l = some (manyT l) := by
  unfold space_many.f manyT
  rw [if_pos ⟨rfl, by unfold maxLen; omega, hn⟩]
theorem right_eq {a : Int} {l : List (List Int)} (h : l.length ≤ 9223372036854775807) (hl : ∀ x ∈ l, x.length ≤ 9223372036854775807) : space_right.f a l = some (l.all (rightOne a)) := by
  unfold space_right.f
  rw [if_pos ⟨by unfold maxLen; omega, fun x hx => by have := hl x hx; unfold maxLen; omega⟩]
theorem measured_ev (l0 : List Int) (kind : Int) (pts : List (List Int)) (start stride cnt blk : List Int) (h0 : Fit l0) (h1 : pts.length ≤ 9223372036854775807) (h1' : ∀ x ∈ pts, x.length ≤ 9223372036854775807)
    (h2 : Fit start) (h3 : Fit stride) (h4 : Fit cnt) (h5 : Fit blk) : Ev (fun k => space_measured.f k l0 kind pts start stride cnt blk) (measuredT l0 kind pts start stride cnt blk) := by
  unfold space_measured.f measuredT
  rw [elements_eq]
  simp only [Option.bind_some]
  by_cases he : (elemsT l0).2 = 0
  · rw [if_pos he]
    simp only [if_pos he]
    have hgood : l0.length ≤ 4 ∧ l0.any badDim = false := by
      unfold elemsT at he
      by_cases c : 4 < l0.length ∨ l0.any badDim = true
      · rw [if_pos c] at he; simp at he
      · rw [not_or] at c
        exact ⟨by omega, by simpa using c.2⟩
    by_cases k1 : kind = 1
    · rw [if_pos k1]
      simp only [if_pos k1]
      unfold capT
      split <;> exact Ev.now _
    · rw [if_neg k1]
      simp only [if_neg k1]
      by_cases k2 : kind = 2
      · subst k2
        rw [right_eq h1 h1']
        simp only [if_true, Option.bind_some]
        cases hr : pts.all (rightOne (l0.length : Int)) with
        | true =>
          rw [if_pos ⟨trivial, rfl⟩]
          refine Ev.step (f := fun k => space_measured.l0 k l0 pts.length pts pts.length ((0 : Nat) : Int)) (fun k => ?_) ?_
          · simp only [space_measured.j0, if_true]
            rfl
          · have hlen : ∀ x ∈ pts, x.length = l0.length := fun x hx => (right_nonneg (List.all_eq_true.1 hr x hx)).1
            have := meas_l0 l0 pts.length pts h1 h0.1 hlen pts.length 0 (by omega) (by omega)
            rw [List.drop_zero] at this
            exact this
        | false =>
          rw [if_neg (by simp), if_neg (by simp)]
          refine Ev.step (f := fun k => space_measured.j3 k l0 false 2 pts start stride cnt blk) (fun k => ?_) ?_
          · simp only [space_measured.j0]
            rw [if_neg (by simp), if_neg (by omega)]
          · refine Ev.step (f := fun _ => some (0, 2)) (fun k => ?_) (Ev.now _)
            simp only [space_measured.j3]
            rw [if_neg (by simp)]
      · rw [if_neg (fun h => k2 h.1)]
        simp only [if_neg k2]
        by_cases k3 : kind = 3
        · subst k3
          have hr4 : space_right.f (l0.length : Int) [start, stride, cnt, blk] = some (slabR l0.length start stride cnt blk) := right_eq (by simp) (by
            intro x hx
            simp only [List.mem_cons, List.not_mem_nil, or_false] at hx
            rcases hx with rfl | rfl | rfl | rfl
            · exact h2.1
            · exact h3.1
            · exact h4.1
            · exact h5.1)
          refine Ev.step (f := fun k => space_measured.j3 k l0 (slabR l0.length start stride cnt blk) 3 pts start stride cnt blk) (fun k => ?_) ?_
          · simp only [space_measured.j0]
            rw [if_neg (by simp), if_pos trivial, hr4, Option.bind_some]
          · cases hs : slabR l0.length start stride cnt blk with
            | false =>
              rw [if_neg (by simp)]
              refine Ev.step (f := fun _ => some (0, 2)) (fun k => ?_) (Ev.now _)
              simp only [space_measured.j3]
              rw [if_neg (by simp)]
            | true =>
              rw [if_pos ⟨rfl, rfl⟩]
              unfold slabR at hs
              simp only [List.all_cons, List.all_nil, Bool.and_true, Bool.and_eq_true] at hs
              obtain ⟨r1, r2, r3, r4⟩ := hs
              obtain ⟨e1, n1⟩ := right_nonneg r1
              obtain ⟨e2, n2⟩ := right_nonneg r2
              obtain ⟨e3, n3⟩ := right_nonneg r3
              obtain ⟨e4, n4⟩ := right_nonneg r4
              have hcl : slices_Clone_int_int.f cnt = some cnt := by unfold slices_Clone_int_int.f; rw [if_pos (by omega)]
              have hmy := many_eq (l := cnt ++ blk) (by rw [List.length_append]; omega) (by rw [List.any_append, n3, n4]; rfl)
              refine Ev.step (f := fun k => space_measured.l2 k l0 (manyT (cnt ++ blk)) l0.length ((0 : Nat) : Int) 3 pts start stride cnt blk) (fun k => ?_) ?_
              · simp only [space_measured.j3, if_true]
                rw [hcl, Option.bind_some, if_pos (by omega), hmy, Option.bind_some]
                rfl
              · exact meas_l2 l0 _ 3 pts start stride cnt blk h0.1 hgood.2 e1 e2 e3 e4 (fun d hd => ⟨neg_rd n1 d (by omega), (h2.rd d (by omega)).2⟩) (fun d hd => neg_rd n2 d (by omega))
                  (fun d hd => ⟨neg_rd n3 d (by omega), (h4.rd d (by omega)).2⟩) (fun d hd => ⟨neg_rd n4 d (by omega), (h5.rd d (by omega)).2⟩) l0.length 0 (by omega) (by omega)
        · rw [if_neg (fun h => k3 h.1)]
          refine Ev.step (f := fun k => space_measured.j3 k l0 false kind pts start stride cnt blk) (fun k => ?_) ?_
          · simp only [space_measured.j0]
            rw [if_neg (by simp), if_neg k3]
          · refine Ev.step (f := fun _ => some (0, 2)) (fun k => ?_) (Ev.now _)
            simp only [space_measured.j3]
            rw [if_neg (by simp)]
  · rw [if_neg he]
    simp only [if_neg he]
    exact Ev.now _
end Go.Proofs.Ytjbjofmcmjojlaa.Pure
end
section
namespace Go.Proofs.Ytjbjofmcmjojlaa.Pure
open Go.RowKit Go.Proofs.Ytjbjofmcmjojlaa.Wk Go.Proofs.YtjbjofmcmjojlaaW.PrintWords Go.Proofs.YtjbjofmcmjojlaaW.PrintLast Go.Proofs.YtjbjofmcmjojlaaQ
def lprod (l : List Int) : Int := l.foldr (· * ·) 1
def nprod (l : List Nat) : Nat := l.foldr (· * ·) 1
theorem lprod_cons (a : Int) (l : List Int) : lprod (a :: l) = a * lprod l := rfl
theorem nprod_cons (a : Nat) (l : List Nat) : nprod (a :: l) = a * nprod l := rfl
theorem lprod_append (a b : List Int) : lprod (a ++ b) = lprod a * lprod b := by
  induction a with
  | nil => simp [lprod]
  | cons x a ih => rw [List.cons_append, lprod_cons, lprod_cons, ih, Int.mul_assoc]
theorem lex_length : ∀ N, (lexList N).length = nprod N
  | [] => rfl
  | n :: N => by
    rw [lexList, nprod_cons, List.length_flatMap]
    simp only [List.length_map, lex_length N]
    rw [List.map_const', List.length_range]
    simp [List.sum_replicate_nat]
theorem drop_rd (l : List Int) (i : Nat) (h : i < l.length) : l.drop i = rd l i :: l.drop (i + 1) := by rw [List.drop_eq_getElem_cons h, rd_nat l i h]
theorem prodLoop_ok (l : List Int) : ∀ (d i : Nat) (n p : Int), l.length - i = d → i ≤ l.length → prodLoop l d i n = (p, 0) → p = n * lprod (l.drop i)
  | 0, i, n, p, h, hi, e => by
    rw [List.drop_eq_nil_of_le (by omega)]
    simp only [prodLoop, Prod.mk.injEq] at e
    simp [lprod, e.1]
  | d + 1, i, n, p, h, hi, e => by
    simp only [prodLoop] at e
    split at e
    · simp at e
    · rw [drop_rd l i (by omega), lprod_cons, ← Int.mul_assoc]
      exact prodLoop_ok l d (i + 1) _ p (by omega) (by omega) e
theorem prodLoop_le (l : List Int) : ∀ (d i : Nat) (n p : Int) (e : Int), n ≤ 1048576 → prodLoop l d i n = (p, e) → p ≤ 1048576 ∧ (e = 0 ∨ e = 3)
  | 0, i, n, p, e, hn, h => by
    simp only [prodLoop, Prod.mk.injEq] at h
    omega
  | d + 1, i, n, p, e, hn, h => by
    simp only [prodLoop] at h
    split at h
    · simp only [Prod.mk.injEq] at h
      omega
    · exact prodLoop_le l d (i + 1) _ p e (by omega) h
theorem manyLoop_ok (l : List Int) : ∀ (d i : Nat) (n : Int), l.length - i = d → i ≤ l.length → manyLoop l d i n ≤ 4096 → manyLoop l d i n = n * lprod (l.drop i)
  | 0, i, n, h, hi, e => by
    rw [List.drop_eq_nil_of_le (by omega)]
    simp [lprod, manyLoop]
  | d + 1, i, n, h, hi, e => by
    simp only [manyLoop] at e ⊢
    split at e
    · omega
    · rename_i c
      rw [if_neg c, drop_rd l i (by omega), lprod_cons, ← Int.mul_assoc]
      exact manyLoop_ok l d (i + 1) _ (by omega) (by omega) e
def Within (l0 x : List Int) : Prop := x.length = l0.length ∧ ∀ d : Nat, d < l0.length → 0 ≤ rd x d ∧ rd x d < rd l0 d
theorem lex_mem : ∀ (N s : List Nat), s ∈ lexList N → s.length = N.length ∧ ∀ d, d < N.length → s.getD d 0 < N.getD d 0
  | [], s, h => by simp [lexList] at h; subst h; simp
  | n :: N, s, h => by
    simp only [lexList, List.mem_flatMap, List.mem_range, List.mem_map] at h
    obtain ⟨i, hi, t, ht, rfl⟩ := h
    obtain ⟨h1, h2⟩ := lex_mem N t ht
    refine ⟨by simp [h1], fun d hd => ?_⟩
    cases d with
    | zero => simpa using hi
    | succ d => simpa using h2 d (by simpa using hd)
theorem tupAt_length (av : Nat → Nat → Int) (s : List Nat) : (tupAt av s).length = s.length := by simp [tupAt]
theorem tupAt_rd (av : Nat → Nat → Int) (s : List Nat) (d : Nat) (h : d < s.length) : rd (tupAt av s) d = av d (s.getD d 0) := by
  rw [rd_nat _ _ (by rw [tupAt_length]; exact h)]
  simp [tupAt]
def horn : List Int → List Int → Int
  | _ :: l, b :: x => b * lprod l + horn l x
  | _, _ => 0
def hornN : List Nat → List Nat → Nat
  | _ :: N, i :: s => i * nprod N + hornN N s
  | _, _ => 0
theorem lprod_pos {l : List Int} (h : ∀ x ∈ l, 1 ≤ x) : 1 ≤ lprod l := by
  induction l with
  | nil => simp [lprod]
  | cons a l ih =>
    rw [lprod_cons]
    have h1 := h a (by simp)
    have h2 := ih (fun x hx => h x (by simp [hx]))
    have : 1 * 1 ≤ a * lprod l := Int.mul_le_mul h1 h2 (by omega) (by omega)
    omega
end Go.Proofs.Ytjbjofmcmjojlaa.Pure
end
section
namespace Go.Proofs.Ytjbjofmcmjojlaa.Pure
open Go.RowKit Go.Proofs.Ytjbjofmcmjojlaa.Wk Go.Proofs.YtjbjofmcmjojlaaW.PrintWords Go.Proofs.YtjbjofmcmjojlaaW.PrintLast Go.Proofs.YtjbjofmcmjojlaaQ
theorem elems_good {l : List Int} (h : (elemsT l).2 = 0) : l.length ≤ 4 ∧ l.any badDim = false ∧ (elemsT l).1 ≤ 1048576 ∧ (((elemsT l).1 = 0 ∧ l.contains 0 = true) ∨ (l.contains 0 = false ∧ (elemsT l).1 = lprod l)) := by
  have hE : elemsT l = if 4 < l.length ∨ l.any badDim = true then (0, 2) else if l.contains 0 = true then (0, 0) else prodLoop l l.length 0 1 := rfl
  by_cases c : 4 < l.length ∨ l.any badDim = true
  · rw [hE, if_pos c] at h
    simp at h
  · rw [if_neg c] at hE
    rw [not_or] at c
    by_cases z : l.contains 0 = true
    · rw [if_pos z] at hE
      rw [hE]
      exact ⟨by omega, by simpa using c.2, by simp, .inl ⟨rfl, z⟩⟩
    · rw [if_neg z] at hE
      rw [hE] at h ⊢
      have h1 := prodLoop_le l l.length 0 1 _ _ (by omega) (Prod.eta (prodLoop l l.length 0 1)).symm
      have h2 := prodLoop_ok l l.length 0 1 (prodLoop l l.length 0 1).1 (by omega) (by omega) (by rw [← h])
      rw [List.drop_zero, Int.one_mul] at h2
      exact ⟨by omega, by simpa using c.2, h1.1, .inr ⟨by simpa using z, h2⟩⟩
theorem pos_mem {l : List Int} (h : ∀ i : Nat, i < l.length → 1 ≤ rd l i) : ∀ x ∈ l, 1 ≤ x := by
  intro x hx
  obtain ⟨i, hi, rfl⟩ := List.getElem_of_mem hx
  rw [← rd_nat l i hi]
  exact h i hi
theorem contains_rd {l : List Int} (h : l.contains 0 = false) (i : Nat) (hi : i < l.length) : rd l i ≠ 0 := by
  rw [rd_nat l i hi]
  intro e
  have h3 : (0 : Int) ∈ l := by rw [← e]; exact List.getElem_mem hi
  rw [List.contains_iff_mem.2 h3] at h
  cases h
theorem ints_nprod (N : List Nat) : lprod (ints N) = nprod N := by
  induction N with
  | nil => rfl
  | cons a N ih =>
    show (a : Int) * lprod (ints N) = _
    rw [ih, nprod_cons]
    simp
theorem selN_one {l0 : List Int} (cnt blk : List Int) (h : ∀ i : Nat, i < l0.length → 0 ≤ rd l0 i) : ints (selN l0 1 cnt blk) = l0 := by
  apply List.ext_getElem
  · simp [ints, selN]
  · intro i h1 h2
    have := h i h2
    rw [rd_nat l0 i h2] at this
    simp [ints, selN, rd, h2]
    omega
theorem selN_zip {l0 cnt blk : List Int} {kind : Int} (hk : kind ≠ 1) (e3 : cnt.length = l0.length) (e4 : blk.length = l0.length) : selN l0 kind cnt blk = List.zipWith (fun a b => (a * b).toNat) cnt blk := by
  apply List.ext_getElem
  · simp [selN, e3, e4]
  · intro i h1 h2
    have hi : i < l0.length := by simpa [selN] using h1
    simp [selN, hk, rd, e3, e4, hi]
theorem nprod_zip : ∀ (a b : List Int), a.length = b.length → (∀ x ∈ a, 0 ≤ x) → (∀ x ∈ b, 0 ≤ x) → (nprod (List.zipWith (fun a b => (a * b).toNat) a b) : Int) = lprod a * lprod b
  | [], [], _, _, _ => by simp [nprod, lprod]
  | x :: a, y :: b, h, h1, h2 => by
    have ih := nprod_zip a b (by simpa using h) (fun z hz => h1 z (by simp [hz])) (fun z hz => h2 z (by simp [hz]))
    have hx := h1 x (by simp)
    have hy := h2 y (by simp)
    have hxy : 0 ≤ x * y := Int.mul_nonneg hx hy
    rw [List.zipWith_cons_cons, nprod_cons, lprod_cons, lprod_cons, Int.natCast_mul, ih, Int.toNat_of_nonneg hxy]
    rw [Int.mul_assoc, Int.mul_assoc, Int.mul_left_comm y]
theorem neg_mem {l : List Int} (h : l.any negDim = false) : ∀ x ∈ l, 0 ≤ x := by
  intro x hx
  have := List.any_eq_false.1 h x hx
  simp [negDim] at this
  omega
theorem any_range' {p : Nat → Bool} {n : Nat} (h : (List.range' 0 n).any p = false) (d : Nat) (hd : d < n) : p d = false := by
  have := List.any_eq_false.1 h d (by simp [List.mem_range']; omega)
  simpa using this
theorem nprod_pos {M : List Nat} (h : ∀ x ∈ M, 1 ≤ x) : 1 ≤ nprod M := by
  induction M with
  | nil => simp [nprod]
  | cons a M ih =>
    rw [nprod_cons]
    exact Nat.le_trans (ih (fun x hx => h x (by simp [hx]))) (Nat.le_mul_of_pos_left _ (h a (by simp)))
theorem getD_le_nprod : ∀ (M : List Nat) (d : Nat), (∀ x ∈ M, 1 ≤ x) → M.getD d 0 ≤ nprod M
  | [], d, _ => by simp
  | a :: M, 0, h => by
    rw [nprod_cons, List.getD_cons_zero]
    exact Nat.le_mul_of_pos_right _ (nprod_pos (fun x hx => h x (by simp [hx])))
  | a :: M, d + 1, h => by
    rw [nprod_cons, List.getD_cons_succ]
    exact Nat.le_trans (getD_le_nprod M d (fun x hx => h x (by simp [hx]))) (Nat.le_mul_of_pos_left _ (h a (by simp)))
structure Good (l0 : List Int) (kind : Int) (pts : List (List Int)) (start stride cnt blk : List Int) (n : Int) : Prop where
  ok : SelOk l0 kind start stride cnt blk
  len : ((selTuples l0 kind pts start stride cnt blk).length : Int) = n
  pos : 0 < n
  cap : n ≤ 4096
  within : ∀ x ∈ selTuples l0 kind pts start stride cnt blk, Within l0 x
theorem measured_good {l0 : List Int} {kind : Int} {pts : List (List Int)} {start stride cnt blk : List Int} {n : Int}
    (h : measuredT l0 kind pts start stride cnt blk = (n, 0)) (hn : n ≠ 0) : Good l0 kind pts start stride cnt blk n := by
  unfold measuredT at h
  have he : (elemsT l0).2 = 0 := by
    by_cases c : (elemsT l0).2 = 0
    · exact c
    · rw [if_neg c] at h
      simp only [Prod.mk.injEq] at h
      exact absurd h.2 c
  rw [if_pos he] at h
  obtain ⟨g1, g2, g3, g4⟩ := elems_good he
  have hdim := good_rd g2
  have capE : ∀ m : Int, capT m = (n, 0) → m = n ∧ n ≤ 4096 := by
    intro m hm
    unfold capT at hm
    split at hm
    · simp at hm
    · simp only [Prod.mk.injEq] at hm
      omega
  by_cases k1 : kind = 1
  · subst k1
    rw [if_pos rfl] at h
    obtain ⟨e1, e2⟩ := capE _ h
    rcases g4 with g4 | ⟨g4, g5⟩
    · omega
    · have hd1 : ∀ d : Nat, d < l0.length → 1 ≤ rd l0 d := fun d hd => by have := hdim d hd; have := contains_rd g4 d hd; omega
      have hNl := selN_length l0 1 cnt blk
      have hN := selN_one cnt blk (fun d hd => (hdim d hd).1)
      have hp : ((selTuples l0 1 pts start stride cnt blk).length : Int) = n := by
        unfold selTuples
        rw [if_neg (by omega), List.length_map, lex_length, ← ints_nprod, hN, ← g5, e1]
      refine ⟨.inr ⟨g1, .inl ⟨rfl, fun d hd => ⟨hd1 d hd, (hdim d hd).2⟩⟩⟩, hp, by omega, e2, fun x hx => ?_⟩
      unfold selTuples at hx
      rw [if_neg (by omega), List.mem_map] at hx
      obtain ⟨s, hs, rfl⟩ := hx
      obtain ⟨s1, s2⟩ := lex_mem _ s hs
      refine ⟨by rw [tupAt_length, s1, hNl], fun d hd => ?_⟩
      have h7 := s2 d (by omega)
      rw [selN_getD _ _ _ _ _ hd, if_pos rfl] at h7
      rw [tupAt_rd _ _ _ (by omega)]
      have := hd1 d hd
      simp only [selAv, if_true]
      omega
  · rw [if_neg k1] at h
    by_cases k2 : kind = 2 ∧ pts.all (rightOne l0.length) = true
    · rw [if_pos k2] at h
      obtain ⟨rfl, hr⟩ := k2
      by_cases ho : outT l0 pts = true
      · rw [if_pos ho] at h
        simp at h
      · rw [if_neg ho] at h
        obtain ⟨e1, e2⟩ := capE _ h
        have ho : outT l0 pts = false := by simpa using ho
        refine ⟨.inl rfl, by unfold selTuples; rw [if_pos rfl]; exact e1, by omega, e2, fun x hx => ?_⟩
        unfold selTuples at hx
        rw [if_pos rfl] at hx
        obtain ⟨r1, r2⟩ := right_nonneg (List.all_eq_true.1 hr x hx)
        refine ⟨r1, fun d hd => ⟨neg_rd r2 d (by omega), ?_⟩⟩
        have h8 := List.any_eq_false.1 ho x hx
        have h9 : outAt l0 x 0 = false := by simpa using h8
        unfold outAt at h9
        have := any_range' h9 d (by omega)
        simpa using this
    · rw [if_neg k2] at h
      by_cases k3 : kind = 3 ∧ slabR l0.length start stride cnt blk = true
      · rw [if_pos k3] at h
        obtain ⟨rfl, hs⟩ := k3
        unfold slabR at hs
        simp only [List.all_cons, List.all_nil, Bool.and_true, Bool.and_eq_true] at hs
        obtain ⟨r1, r2, r3, r4⟩ := hs
        obtain ⟨e1, n1⟩ := right_nonneg r1
        obtain ⟨e2, n2⟩ := right_nonneg r2
        obtain ⟨e3, n3⟩ := right_nonneg r3
        obtain ⟨e4, n4⟩ := right_nonneg r4
        by_cases hb : manyT (cnt ++ blk) > 0 ∧ beyondAt l0 start stride cnt blk 0 = true
        · rw [if_pos hb] at h
          simp at h
        · rw [if_neg hb] at h
          obtain ⟨m1, m2⟩ := capE _ h
          have hz : (cnt ++ blk).contains 0 = false := by
            cases z : (cnt ++ blk).contains 0 with
            | false => rfl
            | true => unfold manyT at m1; rw [if_pos z] at m1; omega
          have hneg : (cnt ++ blk).any negDim = false := by rw [List.any_append, n3, n4]; rfl
          have hpos : ∀ i : Nat, i < (cnt ++ blk).length → 1 ≤ rd (cnt ++ blk) i := fun i hi => pos_rd hneg hz i hi
          have hpm := pos_mem hpos
          have hc1 : ∀ d : Nat, d < l0.length → 1 ≤ rd cnt d := fun d hd => by rw [rd_nat cnt d (by omega)]; exact hpm _ (List.mem_append_left _ (List.getElem_mem _))
          have hb1 : ∀ d : Nat, d < l0.length → 1 ≤ rd blk d := fun d hd => by rw [rd_nat blk d (by omega)]; exact hpm _ (List.mem_append_right _ (List.getElem_mem _))
          have hmany : manyT (cnt ++ blk) = lprod cnt * lprod blk := by
            have hz' : ¬ (cnt ++ blk).contains 0 = true := by rw [hz]; simp
            unfold manyT at m1 ⊢
            rw [if_neg hz'] at m1 ⊢
            have := manyLoop_ok (cnt ++ blk) (cnt ++ blk).length 0 1 (by omega) (by omega) (by omega)
            rw [List.drop_zero, Int.one_mul, lprod_append] at this
            exact this
          have hmpos : 0 < manyT (cnt ++ blk) := by
            rw [hmany]
            have a1 := lprod_pos (fun x hx => hpm x (List.mem_append_left _ hx))
            have a2 := lprod_pos (fun x hx => hpm x (List.mem_append_right _ hx))
            have : 1 * 1 ≤ lprod cnt * lprod blk := Int.mul_le_mul a1 a2 (by omega) (by omega)
            omega
          have hbey : beyondAt l0 start stride cnt blk 0 = false := by
            cases z : beyondAt l0 start stride cnt blk 0 with
            | false => rfl
            | true => exact absurd ⟨hmpos, z⟩ hb
          have hN : selN l0 3 cnt blk = List.zipWith (fun a b => (a * b).toNat) cnt blk := selN_zip (by omega) e3 e4
          have hNp : (nprod (selN l0 3 cnt blk) : Int) = n := by
            rw [hN, nprod_zip cnt blk (by omega) (neg_mem n3) (neg_mem n4), ← hmany, m1]
          have hshare : ∀ d : Nat, d < l0.length → rd cnt d * rd blk d ≤ 4096 := by
            intro d hd
            have h7 := selN_getD l0 3 cnt blk d hd
            rw [if_neg (by omega)] at h7
            have h8 : 1 * 1 ≤ rd cnt d * rd blk d := Int.mul_le_mul (hc1 d hd) (hb1 d hd) (by omega) (by have := hc1 d hd; omega)
            have hall : ∀ x ∈ selN l0 3 cnt blk, 1 ≤ x := by
              intro x hx
              obtain ⟨i, hi, rfl⟩ := List.getElem_of_mem hx
              have hi' : i < l0.length := by simpa [selN] using hi
              have h10 := selN_getD l0 3 cnt blk i hi'
              rw [if_neg (by omega)] at h10
              have h11 : 1 * 1 ≤ rd cnt i * rd blk i := Int.mul_le_mul (hc1 i hi') (hb1 i hi') (by omega) (by have := hc1 i hi'; omega)
              have h12 : (selN l0 3 cnt blk).getD i 0 = (selN l0 3 cnt blk)[i] := by simp [List.getD_eq_getElem?_getD, hi]
              omega
            have h9 := getD_le_nprod (selN l0 3 cnt blk) d hall
            omega
          have hlast : ∀ d : Nat, d < l0.length → 0 ≤ rd start d ∧ 0 ≤ rd stride d ∧ rd start d + (rd cnt d - 1) * rd stride d + rd blk d ≤ rd l0 d := by
            intro d hd
            have hst := neg_rd n1 d (by omega)
            have hsr := neg_rd n2 d (by omega)
            refine ⟨hst, hsr, ?_⟩
            unfold beyondAt at hbey
            have h7 := any_range' hbey d (by omega)
            unfold beyondT at h7
            rw [Bool.or_eq_false_iff, decide_eq_false_iff_not] at h7
            obtain ⟨h7, h8⟩ := h7
            by_cases hz0 : 0 < rd stride d
            · rw [decide_eq_true hz0, Bool.true_and, decide_eq_false_iff_not] at h8
              have h9 : rd cnt d - 1 ≤ (rd l0 d - rd start d - rd blk d) / rd stride d := by omega
              have h10 := (Int.le_ediv_iff_mul_le hz0).1 h9
              omega
            · have : rd stride d = 0 := by omega
              rw [this, Int.mul_zero]
              omega
          refine ⟨.inr ⟨g1, .inr ⟨by omega, e1, e2, e3, e4, fun d hd => ⟨hc1 d hd, hb1 d hd, hshare d hd, (hlast d hd).1, (hlast d hd).2.1, by have := (hlast d hd).2.2; have := (hdim d hd).2; omega⟩⟩⟩, ?_, by omega, m2, fun x hx => ?_⟩
          · unfold selTuples
            rw [if_neg (by omega), List.length_map, lex_length]
            exact hNp
          · unfold selTuples at hx
            rw [if_neg (by omega), List.mem_map] at hx
            obtain ⟨s, hs, rfl⟩ := hx
            obtain ⟨s1, s2⟩ := lex_mem _ s hs
            have hNl := selN_length l0 3 cnt blk
            refine ⟨by rw [tupAt_length, s1, hNl], fun d hd => ?_⟩
            have h7 := s2 d (by omega)
            rw [selN_getD _ _ _ _ _ hd, if_neg (by omega)] at h7
            rw [tupAt_rd _ _ _ (by omega)]
            generalize s.getD d 0 = k at h7
            obtain ⟨l1, l2, l3⟩ := hlast d hd
            have c1 := hc1 d hd
            have b1 := hb1 d hd
            unfold selAv
            rw [if_neg (by omega)]
            have hq0 : 0 ≤ (k : Int) / rd blk d := Int.ediv_nonneg (by omega) (by omega)
            have hm0 : 0 ≤ (k : Int) % rd blk d := Int.emod_nonneg _ (by omega)
            have hm1 : (k : Int) % rd blk d < rd blk d := Int.emod_lt_of_pos _ (by omega)
            have hq1 : (k : Int) / rd blk d < rd cnt d := by
              rw [Int.ediv_lt_iff_lt_mul (by omega)]
              omega
            have hp0 : 0 ≤ (k : Int) / rd blk d * rd stride d := Int.mul_nonneg hq0 l2
            have hp1 : (k : Int) / rd blk d * rd stride d ≤ (rd cnt d - 1) * rd stride d := Int.mul_le_mul_of_nonneg_right (by omega) l2
            omega
      · rw [if_neg k3] at h
        simp at h
def placesT (l0 : List Int) (kind : Int) (pts : List (List Int)) (start stride cnt blk : List Int) : List Int × Int :=
  if (measuredT l0 kind pts start stride cnt blk).2 = 0 then (if (measuredT l0 kind pts start stride cnt blk).1 = 0 then ([], 0) else ((selTuples l0 kind pts start stride cnt blk).map (placeOf l0), 0))
  else ([], (measuredT l0 kind pts start stride cnt blk).2)
theorem places_ev (l0 : List Int) (kind : Int) (pts : List (List Int)) (start stride cnt blk : List Int) (h0 : Fit l0) (h1 : pts.length ≤ 9223372036854775807) (h1' : ∀ x ∈ pts, x.length ≤ 9223372036854775807)
    (h2 : Fit start) (h3 : Fit stride) (h4 : Fit cnt) (h5 : Fit blk) : Ev (fun k => space_Places.f k l0 kind pts start stride cnt blk) (placesT l0 kind pts start stride cnt blk) := by
  unfold space_Places.f
  refine Ev.bind (measured_ev l0 kind pts start stride cnt blk h0 h1 h1' h2 h3 h4 h5) ?_
  unfold placesT
  by_cases c : (measuredT l0 kind pts start stride cnt blk).2 = 0
  · by_cases d : (measuredT l0 kind pts start stride cnt blk).1 = 0
    · simp only [if_pos c, if_pos d]
      exact Ev.now _
    · have g := measured_good (n := (measuredT l0 kind pts start stride cnt blk).1) (by rw [← c]) d
      simp only [if_pos c, if_neg d]
      rw [if_pos ⟨g.ok, by have := g.len; have := g.cap; omega, fun x hx => by have := (g.within x hx).1; omega, by have := g.pos; omega, g.cap⟩]
      exact Ev.now _
  · simp only [if_neg c]
    exact Ev.now _
theorem lawInts_l0 (a b : List Int) (hm : a.length ≤ 9223372036854775807) (hl : a.length = b.length) : ∀ (d i : Nat), a.length - i = d → i ≤ a.length → Ev (fun k => slabvaultlaw12_ints.l0 k a b i) (decide (a.drop i = b.drop i)) := by
  intro d
  induction d with
  | zero =>
    intro i h hi
    rw [List.drop_eq_nil_of_le (by omega), List.drop_eq_nil_of_le (by omega)]
    refine Ev.step (f := fun _ => some true) (fun k => ?_) (Ev.now _)
    simp only [slabvaultlaw12_ints.l0]
    rw [if_neg (by omega)]
  | succ d ih =>
    intro i h hi
    have hlt : i < a.length := by omega
    rw [drop_rd a i hlt, drop_rd b i (by omega)]
    by_cases c : rd a i = rd b i
    · refine Ev.step (f := fun k => slabvaultlaw12_ints.l0 k a b ((i + 1 : Nat) : Int)) (fun k => ?_) (by rw [c]; simpa using ih (i + 1) (by omega) (by omega))
      simp only [slabvaultlaw12_ints.l0]
      rw [if_pos (by omega), if_pos (by omega), if_pos (by omega), if_pos c, wrap_up hlt hm]
    · refine Ev.step (f := fun _ => some false) (fun k => ?_) (by rw [show decide (rd a i :: a.drop (i + 1) = rd b i :: b.drop (i + 1)) = false by simp [c]]; exact Ev.now _)
      simp only [slabvaultlaw12_ints.l0]
      rw [if_pos (by omega), if_pos (by omega), if_pos (by omega), if_neg c]
theorem lawInts_ev (a b : List Int) (hm : a.length ≤ 9223372036854775807) : Ev (fun k => slabvaultlaw12_ints.f k a b) (decide (a = b)) := by
  by_cases hl : a.length = b.length
  · refine Ev.congr (f := fun k => slabvaultlaw12_ints.l0 k a b ((0 : Nat) : Int)) (fun k => ?_) (by simpa using lawInts_l0 a b hm hl a.length 0 (by omega) (by omega))
    unfold slabvaultlaw12_ints.f
    rw [if_pos (by omega)]
    rfl
  · refine Ev.congr (f := fun _ => some false) (fun k => ?_) (by rw [show decide (a = b) = false by simp; intro e; exact hl (by rw [e])]; exact Ev.now _)
    unfold slabvaultlaw12_ints.f
    rw [if_neg (by omega)]
end Go.Proofs.Ytjbjofmcmjojlaa.Pure
end
section
namespace Go.Proofs.Ytjbjofmcmjojlaa.Wk
open Go.RowKit Go.Proofs.YtjbjofmcmjojlaaW.PrintWords Go.Proofs.YtjbjofmcmjojlaaW.PrintLast Go.Proofs.YtjbjofmcmjojlaaW.PrintMore
attribute [local go_sem] max2_int min2_int max_two min_two max_three min_three max_four min_four
set_option linter.unusedVariables false
set_option linter.unusedSimpArgs false
def slabvaultref12_right.l0 : Nat → List Int → Int → Int → Option (Bool)
  | 0, _, _, _ => none
  | k + 1, x0, x1, x5 => if x5 < x1 then (if 0 ≤ x5 then (if x5 < (x0.length : Int) then (if (rd x0 x5) < 0 then (some false) else (slabvaultref12_right.l0 k x0 x1 (wrap64 (x5 + 1)))) else (none)) else (none)) else (some true)
def slabvaultref12_right.f (k : Nat) (l0 : List Int) (a1 : Int) : Option (Bool) := if (l0.length : Int) = a1 then (slabvaultref12_right.l0 k l0 a1 0) else (some false)
end Go.Proofs.Ytjbjofmcmjojlaa.Wk
end
section
namespace Go.Proofs.Ytjbjofmcmjojlaa.Wk
open Go.RowKit Go.Proofs.YtjbjofmcmjojlaaW.PrintWords Go.Proofs.YtjbjofmcmjojlaaW.PrintLast Go.Proofs.YtjbjofmcmjojlaaW.PrintMore
attribute [local go_sem] max2_int min2_int max_two min_two max_three min_three max_four min_four
set_option linter.unusedVariables false
set_option linter.unusedSimpArgs false
def slabvaultref12_may.l0 : Nat → Int → Int → Int → List (List Int) → List Int → List Int → List Int → List Int → Option (Bool)
 | 0, _, _, _, _, _, _, _, _ => none
 | k + 1, x0, x5, x217000, x217001, x217002, x217003, x217004, x217005 => if x5 < (x217001.length : Int) then (if 0 ≤ x5 then ((slabvaultref12_right.f k (rd_L1 x217001 x5) x0).bind fun t218 => (if t218 = true then (slabvaultref12_may.l0 k x0 (wrap64 (x5 + 1)) x217000 x217001 x217002 x217003 x217004 x217005) else (some false))) else (none)) else (some true)
def slabvaultref12_may.f (k : Nat) (a0 : Int) (a1_0 : Int) (l1_1 : List (List Int)) (l1_2 : List Int) (l1_3 : List Int) (l1_4 : List Int) (l1_5 : List Int) : Option (Bool) := if a1_0 = 1 then (some true) else (if a1_0 = 2 then (slabvaultref12_may.l0 k a0 0 a1_0 l1_1 l1_2 l1_3 l1_4 l1_5) else (if a1_0 = 3 then ((slabvaultref12_right.f k l1_2 a0).bind fun t219 => (if t219 = true then ((slabvaultref12_right.f k l1_3 a0).bind fun t220 => (if t220 = true then ((slabvaultref12_right.f k l1_4 a0).bind fun t221 => (if t221 = true then ((slabvaultref12_right.f k l1_5 a0).bind fun t222 => (some t222)) else (some false))) else (some false))) else (some false))) else (some false)))
end Go.Proofs.Ytjbjofmcmjojlaa.Wk
end
section
namespace Go.Proofs.Ytjbjofmcmjojlaa.Wk
open Go.RowKit Go.Proofs.YtjbjofmcmjojlaaW.PrintWords Go.Proofs.YtjbjofmcmjojlaaW.PrintLast Go.Proofs.YtjbjofmcmjojlaaW.PrintMore
attribute [local go_sem] max2_int min2_int max_two min_two max_three min_three max_four min_four
set_option linter.unusedVariables false
set_option linter.unusedSimpArgs false
def slabvaultref12_product.j0 : Nat → Int → Int → Bool → Option (Int)
  | 0, _, _, _ => none
  | k + 1, x0, x1, x10 => if x10 = true then (some 0) else (if x0 > 4096 then (some 4097) else (if x1 > 4096 then (some 4097) else (some (mn (wrap64 (x0 * x1)) 4097))))
def slabvaultref12_product.f (k : Nat) (a0 : Int) (a1 : Int) : Option (Int) := if a0 = 0 then (slabvaultref12_product.j0 k a0 a1 true) else (slabvaultref12_product.j0 k a0 a1 (a1 == 0))
end Go.Proofs.Ytjbjofmcmjojlaa.Wk
end
section
namespace Go.Proofs.Ytjbjofmcmjojlaa.Wk
open Go.RowKit Go.Proofs.YtjbjofmcmjojlaaW.PrintWords Go.Proofs.YtjbjofmcmjojlaaW.PrintLast Go.Proofs.YtjbjofmcmjojlaaW.PrintMore
attribute [local go_sem] max2_int min2_int max_two min_two max_three min_three max_four min_four
set_option linter.unusedVariables false
set_option linter.unusedSimpArgs false
mutual
def slabvaultref12_selected.l0 : Nat → List Int → Int → Int → Int → List (List Int) → List Int → List Int → List Int → List Int → Option (Int)
 | 0, _, _, _, _, _, _, _, _, _ => none
 | k + 1, x0, x5, x6, x224000, x224001, x224002, x224003, x224004, x224005 => if x6 < (x0.length : Int) then (if 0 ≤ x6 then (if x6 < (x224004.length : Int) then (if (rd x224004 x6) = 0 then (some 0) else (if x6 < (x224005.length : Int) then (if (rd x224005 x6) = 0 then (some 0) else (slabvaultref12_selected.l0 k x0 x5 (wrap64 (x6 + 1)) x224000 x224001 x224002 x224003 x224004 x224005)) else (none))) else (none)) else (none)) else (slabvaultref12_selected.l1 k x0 x5 0 x224000 x224001 x224002 x224003 x224004 x224005)
def slabvaultref12_selected.l1 : Nat → List Int → Int → Int → Int → List (List Int) → List Int → List Int → List Int → List Int → Option (Int)
 | 0, _, _, _, _, _, _, _, _, _ => none
 | k + 1, x0, x5, x7, x224000, x224001, x224002, x224003, x224004, x224005 => if x7 < (x0.length : Int) then (if 0 ≤ x7 then (if x7 < (x224004.length : Int) then (if x7 < (x224005.length : Int) then ((slabvaultref12_product.f k (rd x224004 x7) (rd x224005 x7)).bind fun t230 => ((slabvaultref12_product.f k x5 t230).bind fun t231 => (slabvaultref12_selected.l1 k x0 t231 (wrap64 (x7 + 1)) x224000 x224001 x224002 x224003 x224004 x224005))) else (none)) else (none)) else (none)) else (some (mn x5 4097))
end
def slabvaultref12_selected.f (k : Nat) (l0 : List Int) (a1_0 : Int) (l1_1 : List (List Int)) (l1_2 : List Int) (l1_3 : List Int) (l1_4 : List Int) (l1_5 : List Int) : Option (Int) := if a1_0 = 1 then ((slabvaultref12_Elements.f k l0).bind fun bt224 => (some (mn bt224.1 4097))) else (if a1_0 = 2 then (some (mn (l1_1.length : Int) 4097)) else (if a1_0 = 3 then (slabvaultref12_selected.l0 k l0 1 0 a1_0 l1_1 l1_2 l1_3 l1_4 l1_5) else (some (mn 1 4097))))
def slabvaultref12_selected.T16 : Bool × List (List Nat × List Nat) := (true, [([], []), ([], []), ([1], [1]), ([], []), ([2, 3], [2, 3]), ([4], [4]), ([], []), ([6], [6]), ([], []), ([7, 8], [7, 8]), ([9], [9]), ([5, 10], [5, 10]), ([0, 11, 11], [0, 11]), ([12, 12, 0, 1, 2, 3, 4, 5, 6, 7, 8, 9, 10, 11, 12], [0, 12])])
def slabvaultref12_selected.B16 : List Nat := [0, 0, 2, 0, 14, 30, 0, 64, 0, 448, 960, 2046, 4095, 8191]
end Go.Proofs.Ytjbjofmcmjojlaa.Wk
end
section
namespace Go.Proofs.Ytjbjofmcmjojlaa.Wk
open Go.RowKit Go.Proofs.YtjbjofmcmjojlaaW.PrintWords Go.Proofs.YtjbjofmcmjojlaaW.PrintLast Go.Proofs.YtjbjofmcmjojlaaW.PrintMore
attribute [local go_sem] max2_int min2_int max_two min_two max_three min_three max_four min_four
set_option linter.unusedVariables false
set_option linter.unusedSimpArgs false
def slabvaultref12_beyond.f (a0 : Int) (a1 : Int) (a2 : Int) (a3 : Int) (a4 : Int) : Option (Bool) := if a1 ≥ a0 then (some true) else (if a4 > (wrap64 (a0 - a1)) then (some true) else (if a2 > 0 then (if a2 = 0 then (none) else (some (decide ((wrap64 (a3 - 1)) > (wrap64 (Int.tdiv (wrap64 ((wrap64 (a0 - a1)) - a4)) a2)))))) else (some false)))
end Go.Proofs.Ytjbjofmcmjojlaa.Wk
end
section
namespace Go.Proofs.Ytjbjofmcmjojlaa.Wk
open Go.RowKit Go.Proofs.YtjbjofmcmjojlaaW.PrintWords Go.Proofs.YtjbjofmcmjojlaaW.PrintLast Go.Proofs.YtjbjofmcmjojlaaW.PrintMore
attribute [local go_sem] max2_int min2_int max_two min_two max_three min_three max_four min_four
set_option linter.unusedVariables false
set_option linter.unusedSimpArgs false
mutual
def slabvaultref12_Check.l0 : Nat → List Int → Int → Int → Int → List (List Int) → List Int → List Int → List Int → List Int → Option (Int)
 | 0, _, _, _, _, _, _, _, _, _ => none
 | k + 1, x0, x7, x8, x233000, x233001, x233002, x233003, x233004, x233005 => if x8 < (x0.length : Int) then (if x233000 = 2 then (slabvaultref12_Check.l1 k x0 x7 x8 0 x233000 x233001 x233002 x233003 x233004 x233005) else (slabvaultref12_Check.j2 k x0 x7 x8 x233000 x233001 x233002 x233003 x233004 x233005)) else (if x7 > 4096 then (some 18) else (some 0))
def slabvaultref12_Check.j2 : Nat → List Int → Int → Int → Int → List (List Int) → List Int → List Int → List Int → List Int → Option (Int)
 | 0, _, _, _, _, _, _, _, _, _ => none
 | k + 1, x0, x7, x8, x233000, x233001, x233002, x233003, x233004, x233005 => if x233000 = 3 then (if x7 > 0 then (if 0 ≤ x8 then (if x8 < (x0.length : Int) then (if x8 < (x233002.length : Int) then (if x8 < (x233003.length : Int) then (if x8 < (x233004.length : Int) then (if x8 < (x233005.length : Int) then ((slabvaultref12_beyond.f (rd x0 x8) (rd x233002 x8) (rd x233003 x8) (rd x233004 x8) (rd x233005 x8)).bind fun t245 => (if t245 = true then (some 17) else (slabvaultref12_Check.l0 k x0 x7 (wrap64 (x8 + 1)) x233000 x233001 x233002 x233003 x233004 x233005))) else (none)) else (none)) else (none)) else (none)) else (none)) else (none)) else (slabvaultref12_Check.l0 k x0 x7 (wrap64 (x8 + 1)) x233000 x233001 x233002 x233003 x233004 x233005)) else (slabvaultref12_Check.l0 k x0 x7 (wrap64 (x8 + 1)) x233000 x233001 x233002 x233003 x233004 x233005)
def slabvaultref12_Check.l1 : Nat → List Int → Int → Int → Int → Int → List (List Int) → List Int → List Int → List Int → List Int → Option (Int)
 | 0, _, _, _, _, _, _, _, _, _, _ => none
 | k + 1, x0, x7, x8, x9, x233000, x233001, x233002, x233003, x233004, x233005 => if x9 < (x233001.length : Int) then (if 0 ≤ x9 then (if 0 ≤ x8 then (if x8 < ((rd_L1 x233001 x9).length : Int) then (if x8 < (x0.length : Int) then (if (rd (rd_L1 x233001 x9) x8) ≥ (rd x0 x8) then (some 17) else (slabvaultref12_Check.l1 k x0 x7 x8 (wrap64 (x9 + 1)) x233000 x233001 x233002 x233003 x233004 x233005)) else (none)) else (none)) else (none)) else (none)) else (slabvaultref12_Check.j2 k x0 x7 x8 x233000 x233001 x233002 x233003 x233004 x233005)
end
def slabvaultref12_Check.f (k : Nat) (l0 : List Int) (a1_0 : Int) (l1_1 : List (List Int)) (l1_2 : List Int) (l1_3 : List Int) (l1_4 : List Int) (l1_5 : List Int) : Option (Int) := (slabvaultref12_Elements.f k l0).bind fun bt233 => (if bt233.2 = 0 then ((slabvaultref12_may.f k (l0.length : Int) a1_0 l1_1 l1_2 l1_3 l1_4 l1_5).bind fun t235 => (if t235 = true then ((slabvaultref12_selected.f k l0 a1_0 l1_1 l1_2 l1_3 l1_4 l1_5).bind fun t236 => (slabvaultref12_Check.l0 k l0 t236 0 a1_0 l1_1 l1_2 l1_3 l1_4 l1_5)) else (some 2))) else (some bt233.2))
def slabvaultref12_Check.T14 : Bool × List (List Nat × List Nat) := (true, [([], []), ([0], [0]), ([], []), ([1, 2], [1, 2]), ([3], [3]), ([], []), ([4, 5], [4, 5]), ([6], [6]), ([], []), ([], []), ([8, 9], [8, 9]), ([10], [10]), ([7, 11], [7, 11])])
def slabvaultref12_Check.B14 : List Nat := [0, 1, 0, 7, 15, 0, 63, 127, 0, 0, 768, 1792, 4095]
def slabvaultref12_Check.T16 : Bool × List (List Nat × List Nat) := (true, [([], []), ([0], [0]), ([1], [1]), ([2], [2]), ([3], [3]), ([4, 3], [3, 4]), ([3, 5], [3, 5]), ([6, 3], [6]), ([7], [7]), ([7], [7]), ([8, 9, 7], [7, 8, 9]), ([10, 7], [7, 10]), ([7], [7]), ([12, 7], [7, 12]), ([7], [7]), ([13, 14, 7], [7, 13, 14]), ([15, 7], [7, 15]), ([7], [7]), ([17, 7], [7, 17]), ([7], [7]), ([18, 19, 7], [7, 18, 19]), ([20, 7], [7, 20]), ([7], [7]), ([22, 7], [7, 22]), ([7], [7]), ([23, 24, 7], [7, 23, 24]), ([25, 7], [7, 25]), ([7], [7]), ([27, 7], [7, 27]), ([7], [7]), ([28, 29, 7], [7, 28, 29]), ([30, 7], [7, 30]), ([11, 16, 21, 26, 31, 7, 7], [7, 11, 16, 21, 26, 31]), ([7, 32], [7, 32])])
def slabvaultref12_Check.B16 : List Nat := [0, 1, 3, 7, 15, 31, 63, 127, 255, 255, 1023, 2047, 255, 4351, 255, 28927, 61695, 255, 131327, 255, 917759, 1966335, 255, 4194559, 255, 29360383, 62914815, 255, 134217983, 255, 939524351, 2013266175, 4294967295, 8589934591]
end Go.Proofs.Ytjbjofmcmjojlaa.Wk
end
section
namespace Go.Proofs.Ytjbjofmcmjojlaa.Pure
open Go.RowKit Go.Proofs.Ytjbjofmcmjojlaa.Wk Go.Proofs.YtjbjofmcmjojlaaW.PrintWords Go.Proofs.YtjbjofmcmjojlaaW.PrintLast Go.Proofs.YtjbjofmcmjojlaaQ
def mayT (r : Nat) (kind : Int) (pts : List (List Int)) (start stride cnt blk : List Int) : Bool :=
  if kind = 1 then true else if kind = 2 then pts.all (rightOne r) else if kind = 3 then slabR r start stride cnt blk else false
def cap (x : Int) : Int := if x > 4096 then 4097 else x
def selT (l0 : List Int) (kind : Int) (pts : List (List Int)) (cnt blk : List Int) : Int :=
  if kind = 1 then cap (elemsT l0).1 else if kind = 2 then cap pts.length else cap (manyT (cnt ++ blk))
def endT (n : Int) : Int := if n > 4096 then 18 else 0
def colOut (l0 : List Int) (pts : List (List Int)) (d : Nat) : Bool := pts.any fun x => decide (rd x d ≥ rd l0 d)
end Go.Proofs.Ytjbjofmcmjojlaa.Pure
end
section
namespace Go.Proofs.Ytjbjofmcmjojlaa.Wk
open Go.RowKit Go.Proofs.YtjbjofmcmjojlaaW.PrintWords Go.Proofs.YtjbjofmcmjojlaaW.PrintLast Go.Proofs.YtjbjofmcmjojlaaW.PrintMore
attribute [local go_sem] max2_int min2_int max_two min_two max_three min_three max_four min_four
set_option linter.unusedVariables false
set_option linter.unusedSimpArgs false
mutual
def slabvaultref12_Tuples.l0 : Nat → List (List Int) → Int → Int → List (List Int) → List Int → List Int → List Int → List Int → Option ((List (List Int)) × Int)
 | 0, _, _, _, _, _, _, _, _ => none
 | k + 1, x7, x8, x242000, x242001, x242002, x242003, x242004, x242005 => if x8 < (x242001.length : Int) then ((some (([] : List Int) : List Int)).bind fun y243 => (if 0 ≤ x8 then (if y243.length + (rd_L1 x242001 x8).length < 17592186044416 then ((some (([(y243 ++ (rd_L1 x242001 x8))] : List (List Int)) : List (List Int))).bind fun y250 => (if x7.length + y250.length < 5864062014805 then (slabvaultref12_Tuples.l0 k (x7 ++ y250) (wrap64 (x8 + 1)) x242000 x242001 x242002 x242003 x242004 x242005) else (none))) else (none)) else (none))) else (some (x7, 0))
def slabvaultref12_Tuples.l1 : Nat → List Int → List (List Int) → Int → Int → List (List Int) → List Int → List Int → List Int → List Int → Option ((List (List Int)) × Int)
 | 0, _, _, _, _, _, _, _, _, _ => none
 | k + 1, x0, x7, x9, x242000, x242001, x242002, x242003, x242004, x242005 => if x9 < (x0.length : Int) then (if x242000 = 1 then (slabvaultref12_Tuples.l2 k x0 x7 x9 ([] : List Int) 0 x242000 x242001 x242002 x242003 x242004 x242005) else (slabvaultref12_Tuples.l3 k x0 x7 x9 ([] : List Int) 0 x242000 x242001 x242002 x242003 x242004 x242005)) else (some (x7, 0))
def slabvaultref12_Tuples.j5 : Nat → List Int → List (List Int) → Int → List Int → Int → List (List Int) → List Int → List Int → List Int → List Int → Option ((List (List Int)) × Int)
 | 0, _, _, _, _, _, _, _, _, _, _ => none
 | k + 1, x0, x7, x9, x10, x242000, x242001, x242002, x242003, x242004, x242005 => slabvaultref12_Tuples.l5 k x0 x7 x9 x10 ([] : List (List Int)) 0 x242000 x242001 x242002 x242003 x242004 x242005
def slabvaultref12_Tuples.l5 : Nat → List Int → List (List Int) → Int → List Int → List (List Int) → Int → Int → List (List Int) → List Int → List Int → List Int → List Int → Option ((List (List Int)) × Int)
 | 0, _, _, _, _, _, _, _, _, _, _, _, _ => none
 | k + 1, x0, x7, x9, x10, x14, x15, x242000, x242001, x242002, x242003, x242004, x242005 => if x15 < (x7.length : Int) then (slabvaultref12_Tuples.l6 k x0 x7 x9 x10 x14 x15 0 x242000 x242001 x242002 x242003 x242004 x242005) else (slabvaultref12_Tuples.l1 k x0 x14 (wrap64 (x9 + 1)) x242000 x242001 x242002 x242003 x242004 x242005)
def slabvaultref12_Tuples.l6 : Nat → List Int → List (List Int) → Int → List Int → List (List Int) → Int → Int → Int → List (List Int) → List Int → List Int → List Int → List Int → Option ((List (List Int)) × Int)
 | 0, _, _, _, _, _, _, _, _, _, _, _, _, _ => none
 | k + 1, x0, x7, x9, x10, x14, x15, x16, x242000, x242001, x242002, x242003, x242004, x242005 => if x16 < (x10.length : Int) then ((some (([] : List Int) : List Int)).bind fun y280 => (if 0 ≤ x15 then (if x15 < (x7.length : Int) then (if y280.length + (rd_L1 x7 x15).length < 17592186044416 then ((some (y280 ++ (rd_L1 x7 x15) : List Int)).bind fun y284 => (if 0 ≤ x16 then ((some (([rd x10 x16] : List Int) : List Int)).bind fun y288 => (if y284.length + y288.length < 17592186044416 then ((some (([(y284 ++ y288)] : List (List Int)) : List (List Int))).bind fun y294 => (if x14.length + y294.length < 5864062014805 then (slabvaultref12_Tuples.l6 k x0 x7 x9 x10 (x14 ++ y294) x15 (wrap64 (x16 + 1)) x242000 x242001 x242002 x242003 x242004 x242005) else (none))) else (none))) else (none))) else (none)) else (none)) else (none))) else (slabvaultref12_Tuples.l5 k x0 x7 x9 x10 x14 (wrap64 (x15 + 1)) x242000 x242001 x242002 x242003 x242004 x242005)
def slabvaultref12_Tuples.l2 : Nat → List Int → List (List Int) → Int → List Int → Int → Int → List (List Int) → List Int → List Int → List Int → List Int → Option ((List (List Int)) × Int)
 | 0, _, _, _, _, _, _, _, _, _, _, _ => none
 | k + 1, x0, x7, x9, x10, x11, x242000, x242001, x242002, x242003, x242004, x242005 => if 0 ≤ x9 then (if x9 < (x0.length : Int) then (if x11 < (rd x0 x9) then ((some (([x11] : List Int) : List Int)).bind fun y264 => (if x10.length + y264.length < 17592186044416 then (slabvaultref12_Tuples.l2 k x0 x7 x9 (x10 ++ y264) (wrap64 (x11 + 1)) x242000 x242001 x242002 x242003 x242004 x242005) else (none))) else (slabvaultref12_Tuples.j5 k x0 x7 x9 x10 x242000 x242001 x242002 x242003 x242004 x242005)) else (none)) else (none)
def slabvaultref12_Tuples.l3 : Nat → List Int → List (List Int) → Int → List Int → Int → Int → List (List Int) → List Int → List Int → List Int → List Int → Option ((List (List Int)) × Int)
 | 0, _, _, _, _, _, _, _, _, _, _, _ => none
 | k + 1, x0, x7, x9, x10, x12, x242000, x242001, x242002, x242003, x242004, x242005 => if 0 ≤ x9 then (if x9 < (x242004.length : Int) then (if x12 < (rd x242004 x9) then (slabvaultref12_Tuples.l4 k x0 x7 x9 x10 x12 0 x242000 x242001 x242002 x242003 x242004 x242005) else (slabvaultref12_Tuples.j5 k x0 x7 x9 x10 x242000 x242001 x242002 x242003 x242004 x242005)) else (none)) else (none)
def slabvaultref12_Tuples.l4 : Nat → List Int → List (List Int) → Int → List Int → Int → Int → Int → List (List Int) → List Int → List Int → List Int → List Int → Option ((List (List Int)) × Int)
 | 0, _, _, _, _, _, _, _, _, _, _, _, _ => none
 | k + 1, x0, x7, x9, x10, x12, x13, x242000, x242001, x242002, x242003, x242004, x242005 => if 0 ≤ x9 then (if x9 < (x242005.length : Int) then (if x13 < (rd x242005 x9) then (if x9 < (x242002.length : Int) then (if x9 < (x242003.length : Int) then ((some (([wrap64 ((wrap64 ((rd x242002 x9) + (wrap64 (x12 * (rd x242003 x9))))) + x13)] : List Int) : List Int)).bind fun y274 => (if x10.length + y274.length < 17592186044416 then (slabvaultref12_Tuples.l4 k x0 x7 x9 (x10 ++ y274) x12 (wrap64 (x13 + 1)) x242000 x242001 x242002 x242003 x242004 x242005) else (none))) else (none)) else (none)) else (slabvaultref12_Tuples.l3 k x0 x7 x9 x10 (wrap64 (x12 + 1)) x242000 x242001 x242002 x242003 x242004 x242005)) else (none)) else (none)
end
def slabvaultref12_Tuples.f (k : Nat) (l0 : List Int) (a1_0 : Int) (l1_1 : List (List Int)) (l1_2 : List Int) (l1_3 : List Int) (l1_4 : List Int) (l1_5 : List Int) : Option ((List (List Int)) × Int) := (slabvaultref12_Check.f k l0 a1_0 l1_1 l1_2 l1_3 l1_4 l1_5).bind fun t242 => (if t242 = 0 then (if a1_0 = 2 then (slabvaultref12_Tuples.l0 k ([] : List (List Int)) 0 a1_0 l1_1 l1_2 l1_3 l1_4 l1_5) else ((slabvaultref12_selected.f k l0 a1_0 l1_1 l1_2 l1_3 l1_4 l1_5).bind fun t256 => (if t256 = 0 then (some (([] : List (List Int)), 0)) else (slabvaultref12_Tuples.l1 k l0 (([(([] : List Int))] : List (List Int))) 0 a1_0 l1_1 l1_2 l1_3 l1_4 l1_5)))) else (some (([] : List (List Int)), t242)))
def slabvaultref12_Tuples.T29 : Bool × List (List Nat × List Nat) := (true, [([], []), ([], []), ([1], [1]), ([], []), ([2, 3], [2, 3]), ([4], [4]), ([], []), ([], []), ([7], [7]), ([], []), ([8, 9], [8, 9]), ([10], [10]), ([6, 11], [6, 11]), ([5, 12], [5, 12]), ([], []), ([13, 14], [13, 14]), ([15], [15]), ([0, 16], [0, 16]), ([17, 17, 0, 1, 2, 3, 4, 5, 6, 7, 8, 9, 10, 11, 12, 13, 14, 15, 16, 17], [0, 17])])
def slabvaultref12_Tuples.B29 : List Nat := [0, 0, 2, 0, 14, 30, 0, 0, 128, 0, 896, 1920, 4032, 8190, 0, 32766, 65534, 131071, 262143]
def slabvaultref12_Tuples.T37 : Bool × List (List Nat × List Nat) := (true, [([], []), ([], []), ([], []), ([], []), ([2, 3], [2, 3]), ([4], [4]), ([1, 5], [1, 5]), ([], []), ([], []), ([7, 8], [7, 8]), ([9], [9]), ([10], [10]), ([6, 11, 6], [6, 11]), ([12], [12]), ([0, 13, 12], [0, 13]), ([14, 14, 0, 1, 2, 3, 4, 5, 6, 7, 8, 9, 10, 11, 12, 13, 14], [0, 14])])
def slabvaultref12_Tuples.B37 : List Nat := [0, 0, 0, 0, 12, 28, 62, 0, 0, 384, 896, 1920, 4094, 8190, 16383, 32767]
end Go.Proofs.Ytjbjofmcmjojlaa.Wk
end
section
namespace Go.Proofs.Ytjbjofmcmjojlaa.Wk
open Go.RowKit Go.Proofs.YtjbjofmcmjojlaaW.PrintWords Go.Proofs.YtjbjofmcmjojlaaW.PrintLast Go.Proofs.YtjbjofmcmjojlaaW.PrintMore
attribute [local go_sem] max2_int min2_int max_two min_two max_three min_three max_four min_four
set_option linter.unusedVariables false
set_option linter.unusedSimpArgs false
def slabvaultref12_Place.l0 : Nat → List Int → List Int → Int → Int → Option (Int)
  | 0, _, _, _, _ => none
  | k + 1, x0, x1, x5, x6 => if x6 < (x0.length : Int) then (if 0 ≤ x6 then (if x6 < (x1.length : Int) then (slabvaultref12_Place.l0 k x0 x1 (wrap64 ((wrap64 (x5 * (rd x0 x6))) + (rd x1 x6))) (wrap64 (x6 + 1))) else (none)) else (none)) else (some x5)
def slabvaultref12_Place.f (k : Nat) (l0 : List Int) (l1 : List Int) : Option (Int) := slabvaultref12_Place.l0 k l0 l1 0 0
end Go.Proofs.Ytjbjofmcmjojlaa.Wk
end
section
namespace Go.Proofs.Ytjbjofmcmjojlaa.Wk
open Go.RowKit Go.Proofs.YtjbjofmcmjojlaaW.PrintWords Go.Proofs.YtjbjofmcmjojlaaW.PrintLast Go.Proofs.YtjbjofmcmjojlaaW.PrintMore
attribute [local go_sem] max2_int min2_int max_two min_two max_three min_three max_four min_four
set_option linter.unusedVariables false
set_option linter.unusedSimpArgs false
def slabvaultref12_Places.l0 : Nat → List Int → List (List Int) → Int → List Int → Int → Option (List Int × Int)
  | 0, _, _, _, _, _ => none
  | k + 1, x0, x6, x7, x8, x9 => if x9 < (x6.length : Int) then (if 0 ≤ x9 then ((slabvaultref12_Place.f k x0 (rd_L1 x6 x9)).bind fun t308 => (if x8.length < 17592186044416 then (slabvaultref12_Places.l0 k x0 x6 x7 (x8 ++ [t308]) (wrap64 (x9 + 1))) else (none))) else (none)) else (some (x8, x7))
def slabvaultref12_Places.f (k : Nat) (l0 : List Int) (a1_0 : Int) (l1_1 : List (List Int)) (l1_2 : List Int) (l1_3 : List Int) (l1_4 : List Int) (l1_5 : List Int) : Option (List Int × Int) := (slabvaultref12_Tuples.f k l0 a1_0 l1_1 l1_2 l1_3 l1_4 l1_5).bind fun bt303 => (slabvaultref12_Places.l0 k l0 bt303.1 bt303.2 ([] : List Int) 0)
end Go.Proofs.Ytjbjofmcmjojlaa.Wk
end
section
namespace Go.Proofs.Ytjbjofmcmjojlaa.Pure
open Go.RowKit Go.Proofs.Ytjbjofmcmjojlaa.Wk Go.Proofs.YtjbjofmcmjojlaaW.PrintWords Go.Proofs.YtjbjofmcmjojlaaW.PrintLast Go.Proofs.YtjbjofmcmjojlaaQ
def app (line : List Int) (t : List Int) : List (List Int) := line.map fun y => t ++ [y]
def lineT (N : List Nat) (av : Nat → Nat → Int) (d : Nat) : List Int := (List.range (N.getD d 0)).map (av d)
def tupT (N : List Nat) (av : Nat → Nat → Int) (d : Nat) : List (List Int) := (lexList (N.take d)).map (tupAt av)
section
variable (x0 : List Int) (kind : Int) (pts : List (List Int)) (start stride cnt blk : List Int)
end
def tuplesT (l0 : List Int) (kind : Int) (pts : List (List Int)) (start stride cnt blk : List Int) : List (List Int) × Int :=
  if (measuredT l0 kind pts start stride cnt blk).2 = 0 then (if (measuredT l0 kind pts start stride cnt blk).1 = 0 then ([], 0) else (selTuples l0 kind pts start stride cnt blk, 0))
  else ([], (measuredT l0 kind pts start stride cnt blk).2)
theorem capT_ok {m : Int} (h : (capT m).2 = 0) : (capT m).1 = m ∧ cap m = m := by
  unfold capT at h ⊢
  unfold cap
  by_cases c : m > 4096
  · rw [if_pos c] at h
    simp at h
  · rw [if_neg c, if_neg c]
    exact ⟨rfl, rfl⟩
theorem meas_sel {l0 : List Int} {kind : Int} {pts : List (List Int)} {start stride cnt blk : List Int} (h : (measuredT l0 kind pts start stride cnt blk).2 = 0) :
    l0.length ≤ 4 ∧ mayT l0.length kind pts start stride cnt blk = true ∧ selT l0 kind pts cnt blk = (measuredT l0 kind pts start stride cnt blk).1 := by
  unfold measuredT at h ⊢
  by_cases he : (elemsT l0).2 = 0
  · rw [if_pos he] at h ⊢
    refine ⟨(elems_good he).1, ?_⟩
    unfold mayT selT
    by_cases k1 : kind = 1
    · rw [if_pos k1] at h ⊢
      rw [if_pos k1, if_pos k1]
      obtain ⟨a, b⟩ := capT_ok h
      exact ⟨rfl, by rw [a, b]⟩
    · rw [if_neg k1] at h ⊢
      rw [if_neg k1, if_neg k1]
      by_cases k2 : kind = 2 ∧ pts.all (rightOne l0.length) = true
      · rw [if_pos k2] at h ⊢
        rw [if_pos k2.1, if_pos k2.1]
        by_cases o : outT l0 pts = true
        · rw [if_pos o] at h
          simp at h
        · rw [if_neg o] at h ⊢
          obtain ⟨a, b⟩ := capT_ok h
          exact ⟨k2.2, by rw [a, b]⟩
      · rw [if_neg k2] at h ⊢
        by_cases k3 : kind = 3 ∧ slabR l0.length start stride cnt blk = true
        · rw [if_pos k3] at h ⊢
          have k2' : kind ≠ 2 := by have := k3.1; omega
          simp only [if_neg k2', if_pos k3.1]
          by_cases o : manyT (cnt ++ blk) > 0 ∧ beyondAt l0 start stride cnt blk 0 = true
          · rw [if_pos o] at h
            simp at h
          · rw [if_neg o] at h ⊢
            obtain ⟨a, b⟩ := capT_ok h
            exact ⟨k3.2, by rw [a, b]⟩
        · rw [if_neg k3] at h
          simp at h
  · rw [if_neg he] at h
    exact absurd h he
theorem great_l0 (kind : Int) (pts : List (List Int)) (start stride cnt blk : List Int) (hm : pts.length ≤ 9223372036854775807) : ∀ (d i : Nat) (x : Int), pts.length - i = d → i ≤ pts.length → ∃ b, Ev (fun k => slabvaultlaw12_great.l0 k x i kind pts start stride cnt blk) b := by
  intro d
  induction d with
  | zero =>
    intro i x h hi
    refine ⟨_, Ev.step (f := fun _ => some (decide (x > 30000))) (fun k => ?_) (Ev.now _)⟩
    simp only [slabvaultlaw12_great.l0]
    rw [if_neg (by omega)]
  | succ d ih =>
    intro i x h hi
    have hlt : i < pts.length := by omega
    by_cases c : wrap64 (x + ((rd_L1 pts i).length : Int)) > 30000
    · refine ⟨_, Ev.step (f := fun _ => some true) (fun k => ?_) (Ev.now _)⟩
      simp only [slabvaultlaw12_great.l0]
      rw [if_pos (by omega), if_pos (by omega), if_pos c]
    · obtain ⟨b, hb⟩ := ih (i + 1) (wrap64 (x + ((rd_L1 pts i).length : Int))) (by omega) (by omega)
      refine ⟨b, Ev.step (f := fun k => slabvaultlaw12_great.l0 k (wrap64 (x + ((rd_L1 pts i).length : Int))) ((i + 1 : Nat) : Int) kind pts start stride cnt blk) (fun k => ?_) hb⟩
      simp only [slabvaultlaw12_great.l0]
      rw [if_pos (by omega), if_pos (by omega), if_neg c, wrap_up hlt hm]
theorem great_ev (kind : Int) (pts : List (List Int)) (start stride cnt blk : List Int) (hm : pts.length ≤ 9223372036854775807) : ∃ b, Ev (fun k => slabvaultlaw12_great.f k kind pts start stride cnt blk) b := by
  exact great_l0 kind pts start stride cnt blk hm pts.length 0 _ (by omega) (by omega)
end Go.Proofs.Ytjbjofmcmjojlaa.Pure
end
section
namespace Go.Proofs.Ytjbjofmcmjojlaa.Pure
open Go.RowKit Go.Proofs.Ytjbjofmcmjojlaa.Wk Go.Proofs.YtjbjofmcmjojlaaW.PrintWords Go.Proofs.YtjbjofmcmjojlaaW.PrintLast Go.Proofs.YtjbjofmcmjojlaaQ
theorem spaceTuples_ev (l0 : List Int) (kind : Int) (pts : List (List Int)) (start stride cnt blk : List Int) (h0 : Fit l0) (h1 : pts.length ≤ 9223372036854775807) (h1' : ∀ x ∈ pts, x.length ≤ 9223372036854775807)
    (h2 : Fit start) (h3 : Fit stride) (h4 : Fit cnt) (h5 : Fit blk) : Ev (fun k => space_Tuples.f k l0 kind pts start stride cnt blk) (tuplesT l0 kind pts start stride cnt blk) := by
  unfold space_Tuples.f
  refine Ev.bind (measured_ev l0 kind pts start stride cnt blk h0 h1 h1' h2 h3 h4 h5) ?_
  unfold tuplesT
  by_cases c : (measuredT l0 kind pts start stride cnt blk).2 = 0
  · by_cases d : (measuredT l0 kind pts start stride cnt blk).1 = 0
    · simp only [if_pos c, if_pos d]
      exact Ev.now _
    · have g := measured_good (n := (measuredT l0 kind pts start stride cnt blk).1) (by rw [← c]) d
      simp only [if_pos c, if_neg d]
      rw [if_pos ⟨g.ok, by have := g.len; have := g.cap; omega, fun x hx => by have := (g.within x hx).1; omega, (meas_sel c).1, by have := g.pos; omega, g.cap⟩]
      exact Ev.now _
  · simp only [if_neg c]
    exact Ev.now _
theorem tuples_facts (l0 : List Int) (kind : Int) (pts : List (List Int)) (start stride cnt blk : List Int) : (tuplesT l0 kind pts start stride cnt blk).2 = (measuredT l0 kind pts start stride cnt blk).2 ∧
    placesT l0 kind pts start stride cnt blk = ((tuplesT l0 kind pts start stride cnt blk).1.map (placeOf l0), (measuredT l0 kind pts start stride cnt blk).2) ∧ (tuplesT l0 kind pts start stride cnt blk).1.length ≤ 4096 ∧
    (∀ x ∈ (tuplesT l0 kind pts start stride cnt blk).1, Within l0 x) ∧ ((measuredT l0 kind pts start stride cnt blk).2 ≠ 0 → (tuplesT l0 kind pts start stride cnt blk).1 = []) := by
  unfold tuplesT placesT
  by_cases c : (measuredT l0 kind pts start stride cnt blk).2 = 0
  · by_cases z : (measuredT l0 kind pts start stride cnt blk).1 = 0
    · simp [c, z]
    · have g := measured_good (n := (measuredT l0 kind pts start stride cnt blk).1) (by rw [← c]) z
      simp only [if_pos c, if_neg z]
      exact ⟨c.symm, by rw [c], by have := g.len; have := g.cap; omega, g.within, fun h => absurd c h⟩
  · simp [c]
theorem rightOne_of {r : Nat} {l : List Int} (h : l.length = r) (hn : l.any negDim = false) : rightOne r l = true := by
  unfold rightOne
  rw [hn, h]
  simp
theorem within_right {l0 x : List Int} (h : Within l0 x) : rightOne l0.length x = true := by
  refine rightOne_of (by exact h.1) ?_
  rw [List.any_eq_false]
  intro y hy
  obtain ⟨i, hi, rfl⟩ := List.getElem_of_mem hy
  have := (h.2 i (by have := h.1; omega)).1
  rw [rd_nat x i hi] at this
  simp [negDim]
  omega
theorem points_places (l0 : List Int) (T : List (List Int)) (he : (elemsT l0).2 = 0) (hT : T.length ≤ 4096) (hw : ∀ x ∈ T, Within l0 x) : placesT l0 2 T [] [] [] [] = (T.map (placeOf l0), 0) := by
  have hout : outT l0 T = false := by
    unfold outT
    rw [List.any_eq_false]
    intro x hx
    have h := hw x hx
    have e : outAt l0 x 0 = false := by
      unfold outAt
      rw [List.any_eq_false]
      intro d hd
      simp [List.mem_range'] at hd
      have := (h.2 d (by have := h.1; omega)).2
      simp
      omega
    simp [e]
  have hm : measuredT l0 2 T [] [] [] [] = ((T.length : Int), 0) := by
    unfold measuredT
    rw [if_pos he, if_neg (by omega), if_pos ⟨rfl, List.all_eq_true.2 (fun x hx => within_right (hw x hx))⟩, hout]
    unfold capT
    rw [if_neg (by simp), if_neg (by omega)]
  unfold placesT
  rw [hm]
  simp only [if_true]
  by_cases z : (T.length : Int) = 0
  · rw [if_pos z]
    have : T = [] := List.length_eq_zero_iff.1 (by omega)
    rw [this]
    rfl
  · rw [if_neg z]
    unfold selTuples
    rw [if_pos rfl]
theorem meas_elems {l0 : List Int} {kind : Int} {pts : List (List Int)} {start stride cnt blk : List Int} (h : (measuredT l0 kind pts start stride cnt blk).2 = 0) : (elemsT l0).2 = 0 := by
  unfold measuredT at h
  by_cases c : (elemsT l0).2 = 0
  · exact c
  · rw [if_neg c] at h
    exact h
def Fits : List Int → List Int → Prop
  | [], [] => True
  | a :: l, b :: x => (0 ≤ b ∧ b < a) ∧ Fits l x
  | _, _ => False
end Go.Proofs.Ytjbjofmcmjojlaa.Pure
end
section
namespace Go.Proofs.Ytjbjofmcmjojlaa.Pure
open Go.RowKit Go.Proofs.Ytjbjofmcmjojlaa.Wk Go.Proofs.YtjbjofmcmjojlaaW.PrintWords Go.Proofs.YtjbjofmcmjojlaaW.PrintLast Go.Proofs.YtjbjofmcmjojlaaQ
theorem fit_wf {l : List Int} (hm : l.length ≤ maxLen) (h : ∀ x ∈ l, (Lit.int .i64 x).wf = true) : Fit l := by
  refine ⟨hm, fun x hx => ?_⟩
  have := h x hx
  simpa [Lit.wf, IntKind.min, IntKind.max, IntKind.signed, IntKind.bits] using this
theorem SpacePoints (l0 : List Int) (kind : Int) (pts : List (List Int)) (start stride cnt blk : List Int) (h0 : Fit l0) (h1 : pts.length ≤ 9223372036854775807) (h1' : ∀ x ∈ pts, x.length ≤ 9223372036854775807)
    (h2 : Fit start) (h3 : Fit stride) (h4 : Fit cnt) (h5 : Fit blk) : ∃ k, slabvaultlaw12_SpacePoints.f k l0 kind pts start stride cnt blk = some true := by
  refine Ev.rounds (g := fun k => slabvaultlaw12_SpacePoints.f k l0 kind pts start stride cnt blk) (r := true) ?_
  unfold slabvaultlaw12_SpacePoints.f
  obtain ⟨b, hb⟩ := great_ev kind pts start stride cnt blk h1
  refine Ev.bind hb ?_
  cases b with
  | true =>
    simp only [if_true]
    exact Ev.bind lives_ev (Ev.now true)
  | false =>
    simp only [Bool.false_eq_true, if_false]
    have tev := spaceTuples_ev l0 kind pts start stride cnt blk h0 h1 h1' h2 h3 h4 h5
    have pev := places_ev l0 kind pts start stride cnt blk h0 h1 h1' h2 h3 h4 h5
    obtain ⟨f1, f2, f3, f4, f5⟩ := tuples_facts l0 kind pts start stride cnt blk
    refine Ev.bind tev ?_
    rw [f2] at pev
    refine Ev.bind pev ?_
    rw [f1]
    generalize hT : (tuplesT l0 kind pts start stride cnt blk).1 = T at *
    simp only [if_true, List.length_map, bne_self_eq_false]
    by_cases he : (measuredT l0 kind pts start stride cnt blk).2 = 0
    · have fn : Fit ([] : List Int) := ⟨by simp, by simp⟩
      have hTl : ∀ x ∈ T, x.length ≤ 9223372036854775807 := fun x hx => by have := (f4 x hx).1; have := (meas_sel he).1; omega
      have qev := places_ev l0 2 T [] [] [] [] h0 (by omega) hTl fn fn fn fn
      rw [points_places l0 T (meas_elems he) f3 f4] at qev
      refine Ev.step (f := fun k => (space_Places.f k l0 2 T [] [] [] []).bind fun bt => if bt.2 = 0 then (slabvaultlaw12_ints.f k (T.map (placeOf l0)) bt.1).bind fun t => (if t = true then (slabvaultlaw12_lives.f k).bind fun t' => some t' else some false) else some false) (fun k => ?_) ?_
      · simp only [slabvaultlaw12_SpacePoints.j0]
        rw [if_neg (by simp), if_pos he]
      · refine Ev.bind qev ?_
        simp only [if_true]
        refine Ev.bind (lawInts_ev _ _ (by rw [List.length_map]; omega)) ?_
        simp only [decide_true, if_true]
        exact Ev.bind lives_ev (Ev.now true)
    · refine Ev.step (f := fun k => (slabvaultlaw12_lives.f k).bind fun t' => some t') (fun k => ?_) (Ev.bind lives_ev (Ev.now true))
      simp only [slabvaultlaw12_SpacePoints.j0]
      rw [if_neg (by simp), if_neg he]
end Go.Proofs.Ytjbjofmcmjojlaa.Pure
end
